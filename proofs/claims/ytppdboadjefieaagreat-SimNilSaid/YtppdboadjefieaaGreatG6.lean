/- Walks of package record: names, within, rest. Walk of record.rest, by kinds. -/
import Derived.Test.YtppdboadjefieaaGreatG3
import Derived.Test.YtppdboadjefieaaGreatG4
import Derived.Test.YtppdboadjefieaaGreatG1
import Derived.OwnWalk
import Derived.RegionTactic
import Derived.ChangeAlike
namespace Go.Proofs.YtppdboadjefieaaGreat
set_option linter.unusedSimpArgs false
set_option linter.unusedVariables false
open Go Go.RowKit
set_option linter.unusedVariables false

theorem ret_b {a b : Bool} (h : a = b) : Ending.returned (Value.bool a) = Ending.returned (Value.bool b) := by rw [h]
theorem ret_i {a b : Int} (h : a = b) : Ending.returned (Value.int .i64 a) = Ending.returned (Value.int .i64 b) := by rw [h]
theorem ret_vb {v : Value} {a b : Bool} (h : a = b) : Ending.returned (.tuple #[v, Value.bool a]) = Ending.returned (.tuple #[v, Value.bool b]) := by rw [h]
theorem isEmpty_size (s : ByteArray) : s.toList.isEmpty = decide (s.size = 0) := by
  by_cases h : s.size = 0
  · rw [emptyText (s := s) (by omega)]; simp [h]
  · rw [someText (s := s) (by omega)]; simp [h]

theorem within_walk (n m : Int) (w : World) :
    Calls Tryz.prog 315 #[.int .i64 n, .int .i64 m] w fun e w' => e = .returned (.bool (decide (0 ≤ n) && decide (n ≤ m))) ∧ w = w' := by
  go_enter Tryz.func315, Tryz.ntmps315
  go_wp2_with fail
  all_goals go_ret
  all_goals refine ⟨ret_b ?_, rfl⟩
  all_goals simp
  all_goals omega

theorem name_byte (c : UInt8) : nameByte c = false ↔ ((c.toNat < 97 ∨ 122 < c.toNat) ∧ (c.toNat < 48 ∨ 57 < c.toNat)) := by
  unfold nameByte
  simp
  omega

theorem all_take (l : List UInt8) (k : Nat) (c : UInt8) (hc : l[k]? = some c) : (l.take (k + 1)).all nameByte = ((l.take k).all nameByte && nameByte c) := by
  obtain ⟨h1, rfl⟩ := List.getElem?_eq_some_iff.1 hc
  rw [List.take_succ_eq_append_getElem h1, List.all_append]
  simp
theorem all_no {l : List UInt8} {k : Nat} {c : UInt8} (hc : l[k]? = some c) (h : nameByte c = false) : l.all nameByte = false := by
  rw [List.all_eq_false]
  exact ⟨c, List.mem_of_getElem? hc, by rw [h]; decide⟩

set_option maxRecDepth 100000 in
set_option maxHeartbeats 1000000 in
theorem name_walk (s : ByteArray) (w : World) (hs : s.size ≤ 1073741824) :
    Calls Tryz.prog 88 #[.string s] w fun e w' => e = .returned (.bool (nameOk s.data.toList)) ∧ w = w' := by
  have hl : s.data.toList.length = s.size := rfl
  have HL := Lib.hid hl; clear hl
  by_cases c0 : s.size = 0
  · have d0 := emptyText (s := s) (by omega)
    have HD := Lib.hid c0; clear c0
    go_enter Tryz.func88, Tryz.ntmps88
    go_wp2_with fail
    go_loop [6] (fun i => i = .int .i64 0) (fun _ => 0)
    case atStart => rfl
    case round =>
      subst hrel
      have hz : (s.size : Int) ≤ 0 := by have := HD.out; omega
      go_wp2_with fail
      go_ret
      exact ⟨ret_b (by unfold nameOk; rw [HL.out, HD.out]; rfl), rfl⟩
  have d0 := someText (s := s) (by omega)
  go_enter Tryz.func88, Tryz.ntmps88
  go_wp2_with fail
  go_loop [6] (fun i => ∃ k : Nat, k ≤ s.size ∧ i = .int .i64 k ∧ (s.data.toList.take k).all nameByte = true) (fun i => s.size - (intOf i).toNat)
  case atStart => exact ⟨0, by omega, rfl, rfl⟩
  case round =>
    obtain ⟨k, hk, rfl, hall⟩ := hrel
    have HA := Lib.hid hall; clear hall
    by_cases hlt : k < s.size
    · have hlt' : (k : Int) < s.size := by omega
      obtain ⟨c, hc⟩ : ∃ c, s[k] = c := ⟨_, rfl⟩
      have hck : s.data.toList[k]? = some c := by rw [List.getElem?_eq_getElem (by rw [HL.out]; exact hlt), ← hc]; rfl
      have HC := Lib.hid hck; clear hck
      have hc8 := c.toNat_lt
      go_wp2_with fail
      all_goals try (
        go_round
        case rel =>
          refine ⟨k + 1, by omega, by go_num, ?_⟩
          rw [all_take _ _ _ HC.out, HA.out]
          simp only [Bool.true_and]
          cases hb : nameByte c with
          | true => rfl
          | false => rw [name_byte] at hb; exfalso; simp_all; omega
        case measure => simp [intOf]; omega)
      all_goals
        go_ret
        refine ⟨ret_b ?_, rfl⟩
        have hno : nameByte c = false := by rw [name_byte]; simp_all; omega
        unfold nameOk
        rw [all_no HC.out hno]
        simp
    · obtain rfl : k = s.size := by omega
      go_wp2_with fail
      all_goals go_ret
      all_goals refine ⟨ret_b ?_, rfl⟩
      all_goals
        have hall := HA.out
        rw [List.take_of_length_le (by rw [HL.out]; omega)] at hall
        unfold nameOk
        rw [hall, HL.out]
        rw [show decide ((s.size : Int) ≤ 16) = decide (s.size ≤ 16) from decide_eq_decide.2 (by omega), decide_eq_true (show 1 ≤ s.size by omega)]
        simp

set_option maxRecDepth 100000 in
set_option maxHeartbeats 1000000 in
theorem rname_walk (s : ByteArray) (w : World) :
    Calls Tryz.prog 402 #[.string s] w fun e w' => e = .returned (.bool (nameOk s.data.toList)) ∧ w = w' := by
  have hl : s.data.toList.length = s.size := rfl
  have HL := Lib.hid hl; clear hl
  by_cases c1 : s.size < 1
  · have d1 : (s.size : Int) < 1 := by omega
    go_enter Tryz.func402, Tryz.ntmps402
    go_wp2_with fail
    go_ret
    exact ⟨ret_b (by unfold nameOk; rw [HL.out, show s.size = 0 by omega]; rfl), rfl⟩
  by_cases c2 : 16 < s.size
  · have d1 : (1 : Int) ≤ s.size := by omega
    have d2 : (16 : Int) < s.size := by omega
    go_enter Tryz.func402, Tryz.ntmps402
    go_wp2_with fail
    go_ret
    refine ⟨ret_b ?_, rfl⟩
    unfold nameOk
    rw [HL.out, decide_eq_false (show ¬ s.size ≤ 16 by omega)]
    simp
  have d1 : (1 : Int) ≤ s.size := by omega
  have d2 : (s.size : Int) ≤ 16 := by omega
  go_enter Tryz.func402, Tryz.ntmps402
  go_wp2_with fail
  go_loop [3] (fun i => ∃ k : Nat, k ≤ s.size ∧ i = .int .i64 k ∧ (s.data.toList.take k).all nameByte = true) (fun i => s.size - (intOf i).toNat)
  case atStart => exact ⟨0, by omega, rfl, rfl⟩
  case round =>
    obtain ⟨k, hk, rfl, hall⟩ := hrel
    have HA := Lib.hid hall; clear hall
    by_cases hlt : k < s.size
    · have hlt' : (k : Int) < s.size := by omega
      obtain ⟨c, hc⟩ : ∃ c, s[k] = c := ⟨_, rfl⟩
      have hck : s.data.toList[k]? = some c := by rw [List.getElem?_eq_getElem (by rw [HL.out]; exact hlt), ← hc]; rfl
      have HC := Lib.hid hck; clear hck
      have hc8 := c.toNat_lt
      go_wp2_with fail
      all_goals try (
        go_round
        case rel =>
          refine ⟨k + 1, by omega, by go_num, ?_⟩
          rw [all_take _ _ _ HC.out, HA.out]
          simp only [Bool.true_and]
          cases hb : nameByte c with
          | true => rfl
          | false => rw [name_byte] at hb; exfalso; simp_all; omega
        case measure => simp [intOf]; omega)
      all_goals
        go_ret
        refine ⟨ret_b ?_, rfl⟩
        have hno : nameByte c = false := by rw [name_byte]; simp_all; omega
        unfold nameOk
        rw [all_no HC.out hno]
        simp
    · obtain rfl : k = s.size := by omega
      go_wp2_with fail
      go_ret
      refine ⟨ret_b ?_, rfl⟩
      have hall := HA.out
      rw [List.take_of_length_le (by rw [HL.out]; omega)] at hall
      unfold nameOk
      rw [hall, HL.out]
      simp
      omega
end Go.Proofs.YtppdboadjefieaaGreat
namespace Go.Proofs.YtppdboadjefieaaGreat
set_option linter.unusedSimpArgs false
set_option linter.unusedVariables false
open Go Go.RowKit
set_option linter.unusedVariables false

set_option maxRecDepth 100000 in
set_option maxHeartbeats 4000000 in
theorem rest_1 (epoch time count target till : Int) (root name : ByteArray) (w : World) (hname : name.size ≤ 1073741824) (E1 : Int) (hE1 : wrap64 (epoch - 1) = E1) :
    Calls Tryz.prog 314 #[.agg #[.int .i64 1, .int .i64 epoch, .int .i64 time, .int .i64 count, .int .i64 target, .int .i64 till, .string root, .string name]] w
      fun e w' => e = .returned (.tuple #[.agg #[.int .i64 0, .int .i64 0, .int .i64 0, .int .i64 0, .int .i64 target, .int .i64 till, .string ⟨#[]⟩, .string name], .bool ((decide (0 ≤ count) && decide (count ≤ 4096)) && decide (root.size = 32))]) ∧ Below w.heap.size w w' := by
  have z3 : ((root.size : Int) == 32) = decide (root.size = 32) := by rw [Bool.eq_iff_iff]; simp; omega
  go_enter Tryz.func314, Tryz.ntmps314
  go_wp2_with (first | (go_at_call 315; refine (within_walk _ _ _).mono ?_; rintro e w1 ⟨rfl, rfl⟩) | (go_at_call 88; refine (name_walk _ _ hname).mono ?_; rintro e w1 ⟨rfl, rfl⟩))
  all_goals go_region
  all_goals go_wp2_with fail
  all_goals (refine bodyPost_ret (v := .tuple #[.agg #[.int .i64 0, .int .i64 0, .int .i64 0, .int .i64 0, .int .i64 target, .int .i64 till, .string ⟨#[]⟩, .string name], .bool ((decide (0 ≤ count) && decide (count ≤ 4096)) && decide (root.size = 32))]) ?_ rfl ⟨rfl, ?_⟩)
  all_goals first
    | (simp [results, Tryz.results314, go_sem]; done)
    | (simp [results, Tryz.results314, go_sem]; omega)
    | (simp [results, Tryz.results314, go_sem, *]; done)
    | skip
  all_goals try (repeat (first | exact Below.refl _ _ | assumption | (with_reducible refine Below.drew ?_) | (with_reducible refine Below.setCell ?_ ?_ _) | (with_reducible refine Below.alloc ?_ ?_ _)))
  all_goals try (simp; done)
  all_goals try (simp; omega)

set_option maxRecDepth 100000 in
set_option maxHeartbeats 4000000 in
theorem rest_2 (epoch time count target till : Int) (root name : ByteArray) (w : World) (hname : name.size ≤ 1073741824) (E1 : Int) (hE1 : wrap64 (epoch - 1) = E1) :
    Calls Tryz.prog 314 #[.agg #[.int .i64 2, .int .i64 epoch, .int .i64 time, .int .i64 count, .int .i64 target, .int .i64 till, .string root, .string name]] w
      fun e w' => e = .returned (.tuple #[.agg #[.int .i64 0, .int .i64 0, .int .i64 0, .int .i64 count, .int .i64 0, .int .i64 0, .string root, .string name], .bool ((decide (0 ≤ till) && decide (till ≤ 1099511627776)) && (decide (0 ≤ target) && decide (target ≤ E1)))]) ∧ Below w.heap.size w w' := by
  skip
  go_enter Tryz.func314, Tryz.ntmps314
  go_wp2_with (first | (go_at_call 315; refine (within_walk _ _ _).mono ?_; rintro e w1 ⟨rfl, rfl⟩) | (go_at_call 88; refine (name_walk _ _ hname).mono ?_; rintro e w1 ⟨rfl, rfl⟩))
  all_goals (go_in; go_wp2_with (first | (go_at_call 315; refine (within_walk _ _ _).mono ?_; rintro e w1 ⟨rfl, rfl⟩) | (go_at_call 88; refine (name_walk _ _ hname).mono ?_; rintro e w1 ⟨rfl, rfl⟩)))
  all_goals go_region
  all_goals go_wp2_with fail
  all_goals (refine bodyPost_ret (v := .tuple #[.agg #[.int .i64 0, .int .i64 0, .int .i64 0, .int .i64 count, .int .i64 0, .int .i64 0, .string root, .string name], .bool ((decide (0 ≤ till) && decide (till ≤ 1099511627776)) && (decide (0 ≤ target) && decide (target ≤ E1)))]) ?_ rfl ⟨rfl, ?_⟩)
  all_goals first
    | (simp [results, Tryz.results314, go_sem]; done)
    | (simp [results, Tryz.results314, go_sem]; omega)
    | (simp [results, Tryz.results314, go_sem, *]; done)
    | skip
  all_goals try (repeat (first | exact Below.refl _ _ | assumption | (with_reducible refine Below.drew ?_) | (with_reducible refine Below.setCell ?_ ?_ _) | (with_reducible refine Below.alloc ?_ ?_ _)))
  all_goals try (simp; done)
  all_goals try (simp; omega)

set_option maxRecDepth 100000 in
set_option maxHeartbeats 4000000 in
theorem rest_5 (epoch time count target till : Int) (root name : ByteArray) (w : World) (hname : name.size ≤ 1073741824) (E1 : Int) (hE1 : wrap64 (epoch - 1) = E1) :
    Calls Tryz.prog 314 #[.agg #[.int .i64 5, .int .i64 epoch, .int .i64 time, .int .i64 count, .int .i64 target, .int .i64 till, .string root, .string name]] w
      fun e w' => e = .returned (.tuple #[.agg #[.int .i64 0, .int .i64 0, .int .i64 0, .int .i64 count, .int .i64 0, .int .i64 0, .string root, .string name], .bool ((decide (0 ≤ till) && decide (till ≤ 1099511627776)) && (decide (0 ≤ target) && decide (target ≤ E1)))]) ∧ Below w.heap.size w w' := by
  skip
  go_enter Tryz.func314, Tryz.ntmps314
  go_wp2_with (first | (go_at_call 315; refine (within_walk _ _ _).mono ?_; rintro e w1 ⟨rfl, rfl⟩) | (go_at_call 88; refine (name_walk _ _ hname).mono ?_; rintro e w1 ⟨rfl, rfl⟩))
  all_goals (go_in; go_wp2_with (first | (go_at_call 315; refine (within_walk _ _ _).mono ?_; rintro e w1 ⟨rfl, rfl⟩) | (go_at_call 88; refine (name_walk _ _ hname).mono ?_; rintro e w1 ⟨rfl, rfl⟩)))
  all_goals go_region
  all_goals go_wp2_with fail
  all_goals (refine bodyPost_ret (v := .tuple #[.agg #[.int .i64 0, .int .i64 0, .int .i64 0, .int .i64 count, .int .i64 0, .int .i64 0, .string root, .string name], .bool ((decide (0 ≤ till) && decide (till ≤ 1099511627776)) && (decide (0 ≤ target) && decide (target ≤ E1)))]) ?_ rfl ⟨rfl, ?_⟩)
  all_goals first
    | (simp [results, Tryz.results314, go_sem]; done)
    | (simp [results, Tryz.results314, go_sem]; omega)
    | (simp [results, Tryz.results314, go_sem, *]; done)
    | skip
  all_goals try (repeat (first | exact Below.refl _ _ | assumption | (with_reducible refine Below.drew ?_) | (with_reducible refine Below.setCell ?_ ?_ _) | (with_reducible refine Below.alloc ?_ ?_ _)))
  all_goals try (simp; done)
  all_goals try (simp; omega)

set_option maxRecDepth 100000 in
set_option maxHeartbeats 4000000 in
theorem rest_3 (epoch time count target till : Int) (root name : ByteArray) (w : World) (hname : name.size ≤ 1073741824) (E1 : Int) (hE1 : wrap64 (epoch - 1) = E1) :
    Calls Tryz.prog 314 #[.agg #[.int .i64 3, .int .i64 epoch, .int .i64 time, .int .i64 count, .int .i64 target, .int .i64 till, .string root, .string name]] w
      fun e w' => e = .returned (.tuple #[.agg #[.int .i64 0, .int .i64 0, .int .i64 0, .int .i64 count, .int .i64 0, .int .i64 till, .string root, .string ⟨#[]⟩], .bool ((decide (0 ≤ target) && decide (target ≤ E1)) && nameOk name.data.toList)]) ∧ Below w.heap.size w w' := by
  skip
  go_enter Tryz.func314, Tryz.ntmps314
  go_wp2_with (first | (go_at_call 315; refine (within_walk _ _ _).mono ?_; rintro e w1 ⟨rfl, rfl⟩) | (go_at_call 88; refine (name_walk _ _ hname).mono ?_; rintro e w1 ⟨rfl, rfl⟩))
  all_goals (go_in; go_wp2_with (first | (go_at_call 315; refine (within_walk _ _ _).mono ?_; rintro e w1 ⟨rfl, rfl⟩) | (go_at_call 88; refine (name_walk _ _ hname).mono ?_; rintro e w1 ⟨rfl, rfl⟩)))
  all_goals go_region
  all_goals go_wp2_with fail
  all_goals (refine bodyPost_ret (v := .tuple #[.agg #[.int .i64 0, .int .i64 0, .int .i64 0, .int .i64 count, .int .i64 0, .int .i64 till, .string root, .string ⟨#[]⟩], .bool ((decide (0 ≤ target) && decide (target ≤ E1)) && nameOk name.data.toList)]) ?_ rfl ⟨rfl, ?_⟩)
  all_goals first
    | (simp [results, Tryz.results314, go_sem]; done)
    | (simp [results, Tryz.results314, go_sem]; omega)
    | (simp [results, Tryz.results314, go_sem, *]; done)
    | skip
  all_goals try (repeat (first | exact Below.refl _ _ | assumption | (with_reducible refine Below.drew ?_) | (with_reducible refine Below.setCell ?_ ?_ _) | (with_reducible refine Below.alloc ?_ ?_ _)))
  all_goals try (simp; done)
  all_goals try (simp; omega)

set_option maxRecDepth 100000 in
set_option maxHeartbeats 4000000 in
theorem rest_4 (epoch time count target till : Int) (root name : ByteArray) (w : World) (hname : name.size ≤ 1073741824) (E1 : Int) (hE1 : wrap64 (epoch - 1) = E1) :
    Calls Tryz.prog 314 #[.agg #[.int .i64 4, .int .i64 epoch, .int .i64 time, .int .i64 count, .int .i64 target, .int .i64 till, .string root, .string name]] w
      fun e w' => e = .returned (.tuple #[.agg #[.int .i64 0, .int .i64 0, .int .i64 0, .int .i64 count, .int .i64 target, .int .i64 till, .string root, .string ⟨#[]⟩], .bool (nameOk name.data.toList)]) ∧ Below w.heap.size w w' := by
  skip
  go_enter Tryz.func314, Tryz.ntmps314
  go_wp2_with (first | (go_at_call 315; refine (within_walk _ _ _).mono ?_; rintro e w1 ⟨rfl, rfl⟩) | (go_at_call 88; refine (name_walk _ _ hname).mono ?_; rintro e w1 ⟨rfl, rfl⟩))
  all_goals go_region
  all_goals go_wp2_with fail
  all_goals (refine bodyPost_ret (v := .tuple #[.agg #[.int .i64 0, .int .i64 0, .int .i64 0, .int .i64 count, .int .i64 target, .int .i64 till, .string root, .string ⟨#[]⟩], .bool (nameOk name.data.toList)]) ?_ rfl ⟨rfl, ?_⟩)
  all_goals first
    | (simp [results, Tryz.results314, go_sem]; done)
    | (simp [results, Tryz.results314, go_sem]; omega)
    | (simp [results, Tryz.results314, go_sem, *]; done)
    | skip
  all_goals try (repeat (first | exact Below.refl _ _ | assumption | (with_reducible refine Below.drew ?_) | (with_reducible refine Below.setCell ?_ ?_ _) | (with_reducible refine Below.alloc ?_ ?_ _)))
  all_goals try (simp; done)
  all_goals try (simp; omega)

set_option maxRecDepth 100000 in
set_option maxHeartbeats 4000000 in
theorem rest_o (kind epoch time count target till : Int) (root name : ByteArray) (w : World) (hname : name.size ≤ 1073741824) (E1 : Int) (hE1 : wrap64 (epoch - 1) = E1) (k1 : ¬ kind = 1) (k2 : ¬ kind = 2) (k5 : ¬ kind = 5) (k3 : ¬ kind = 3) (k4 : ¬ kind = 4) :
    Calls Tryz.prog 314 #[.agg #[.int .i64 kind, .int .i64 epoch, .int .i64 time, .int .i64 count, .int .i64 target, .int .i64 till, .string root, .string name]] w
      fun e w' => e = .returned (.tuple #[.agg #[.int .i64 0, .int .i64 0, .int .i64 0, .int .i64 count, .int .i64 target, .int .i64 till, .string root, .string name], .bool (false)]) ∧ Below w.heap.size w w' := by
  skip
  go_enter Tryz.func314, Tryz.ntmps314
  go_wp2_with (first | (go_at_call 315; refine (within_walk _ _ _).mono ?_; rintro e w1 ⟨rfl, rfl⟩) | (go_at_call 88; refine (name_walk _ _ hname).mono ?_; rintro e w1 ⟨rfl, rfl⟩))
  all_goals go_region
  all_goals go_wp2_with fail
  all_goals (refine bodyPost_ret (v := .tuple #[.agg #[.int .i64 0, .int .i64 0, .int .i64 0, .int .i64 count, .int .i64 target, .int .i64 till, .string root, .string name], .bool (false)]) ?_ rfl ⟨rfl, ?_⟩)
  all_goals first
    | (simp [results, Tryz.results314, go_sem]; done)
    | (simp [results, Tryz.results314, go_sem]; omega)
    | (simp [results, Tryz.results314, go_sem, *]; done)
    | skip
  all_goals try (repeat (first | exact Below.refl _ _ | assumption | (with_reducible refine Below.drew ?_) | (with_reducible refine Below.setCell ?_ ?_ _) | (with_reducible refine Below.alloc ?_ ?_ _)))
  all_goals try (simp; done)
  all_goals try (simp; omega)
end Go.Proofs.YtppdboadjefieaaGreat
