/- A disk's looks (chapter 8): there, may, at, Size, Down, place, step, Read. -/
import Derived.Test.YtppdboadjefieaaGreatDisk
import Derived.Test.YtppdboadjefieaaGreatG1
namespace Go.Proofs.YtppdboadjefieaaGreat
set_option linter.unusedSimpArgs false
set_option linter.unusedVariables false
open Go Go.RowKit
set_option linter.unusedVariables false
set_option maxRecDepth 100000

theorem dthere_walk (db : Nat) (d : DiskD) (w : World) (h : DiskAt w db d) :
    Calls Tryz.prog 49 #[.pointer (some ⟨db, 0, none⟩)] w fun e w' => e = .returned (.bool true) ∧ w = w' := by
  have c2 := h.blk.cell (i := 2) rfl
  go_enter Tryz.func49, Tryz.ntmps49
  go_wp2_with fail
  go_ret
  exact ⟨rfl, rfl⟩
theorem dmay_walk (db : Nat) (d : DiskD) (w : World) (h : DiskAt w db d) :
    Calls Tryz.prog 201 #[.pointer (some ⟨db, 0, none⟩)] w fun e w' => e = .returned (.int .i64 (if d.down then 14 else 0)) ∧ w = w' := by
  have c3 := h.blk.cell (i := 3) rfl
  obtain ⟨q, hq⟩ : ∃ q, d.down = q := ⟨_, rfl⟩
  rw [hq] at c3 ⊢
  cases q with
  | false =>
    go_enter Tryz.func201, Tryz.ntmps201
    go_wp2_with fail
    refine (dthere_walk db d _ h).mono ?_
    rintro e w' ⟨rfl, rfl⟩
    go_wp2_with fail
    go_ret
    exact ⟨rfl, rfl⟩
  | true =>
    go_enter Tryz.func201, Tryz.ntmps201
    go_wp2_with fail
    refine (dthere_walk db d _ h).mono ?_
    rintro e w' ⟨rfl, rfl⟩
    go_wp2_with fail
    go_ret
    exact ⟨rfl, rfl⟩
theorem bv_shape {w : World} {db : Nat} {d : DiskD} (h : DiskAt w db d) : ∃ (p : Option Addr) (c : Nat), d.bv = .slice p d.bs.length c := own_shape h.rb
theorem cv_shape {w : World} {db : Nat} {d : DiskD} (h : DiskAt w db d) : ∃ (p : Option Addr) (c : Nat), d.cv = .slice p d.cs.length c := own_shape h.rc
theorem dat_walk (db : Nat) (d : DiskD) (w : World) (h : DiskAt w db d) (i : Int) :
    Calls Tryz.prog 328 #[.pointer (some ⟨db, 0, none⟩), .int .i64 i] w fun e w' => e = .returned (.bool (decide (0 ≤ i) && decide (i < d.bs.length))) ∧ w = w' := by
  have c0 := h.blk.cell (i := 0) rfl
  obtain ⟨p, c, hs⟩ := bv_shape h
  rw [hs] at c0
  by_cases h0 : 0 ≤ i
  · by_cases h1 : i < (d.bs.length : Int)
    · have h2 := h1
      go_enter Tryz.func328, Tryz.ntmps328
      go_wp2_with fail
      go_ret
      exact ⟨by simp [h0, h2], rfl⟩
    · have h2 : (d.bs.length : Int) ≤ i := by omega
      go_enter Tryz.func328, Tryz.ntmps328
      go_wp2_with fail
      go_ret
      exact ⟨by simp [h0, h1], rfl⟩
  · have h2 : i < 0 := by omega
    go_enter Tryz.func328, Tryz.ntmps328
    go_wp2_with fail
    go_ret
    exact ⟨by have h3 : ¬ (0 ≤ i) := by omega
              simp [h3], rfl⟩
theorem dsize_walk (db : Nat) (d : DiskD) (w : World) (h : DiskAt w db d) :
    Calls Tryz.prog 166 #[.pointer (some ⟨db, 0, none⟩)] w fun e w' => e = .returned (.int .i64 d.bs.length) ∧ w = w' := by
  have c0 := h.blk.cell (i := 0) rfl
  obtain ⟨p, c, hs⟩ := bv_shape h
  rw [hs] at c0
  go_enter Tryz.func166, Tryz.ntmps166
  go_wp2_with fail
  refine (dthere_walk db d _ h).mono ?_
  rintro e w' ⟨rfl, rfl⟩
  go_wp2_with fail
  go_ret
  exact ⟨rfl, rfl⟩
theorem ddown_walk (db : Nat) (d : DiskD) (w : World) (h : DiskAt w db d) :
    Calls Tryz.prog 112 #[.pointer (some ⟨db, 0, none⟩)] w fun e w' => e = .returned (.bool d.down) ∧ w = w' := by
  have c3 := h.blk.cell (i := 3) rfl
  go_enter Tryz.func112, Tryz.ntmps112
  go_wp2_with fail
  refine (dthere_walk db d _ h).mono ?_
  rintro e w' ⟨rfl, rfl⟩
  go_wp2_with fail
  go_ret
  exact ⟨rfl, rfl⟩
/-- Why a block can't be written to a place. -/
def DiskD.placeE (d : DiskD) (i : Int) (n : Nat) : Int := if (decide (0 ≤ i) && decide (i < d.bs.length)) = true then (if n = 4096 then 0 else 2) else 4
theorem dplace_walk (db : Nat) (d : DiskD) (w : World) (h : DiskAt w db d) (i : Int) (s : ByteArray) :
    Calls Tryz.prog 323 #[.pointer (some ⟨db, 0, none⟩), .int .i64 i, .string s] w fun e w' => e = .returned (.int .i64 (d.placeE i s.size)) ∧ w = w' := by
  go_enter Tryz.func323, Tryz.ntmps323
  go_wp2_with fail
  refine (dat_walk db d _ h i).mono ?_
  rintro e w' ⟨rfl, rfl⟩
  obtain ⟨q, hq⟩ : ∃ q, (decide (0 ≤ i) && decide (i < (d.bs.length : Int))) = q := ⟨_, rfl⟩
  have HQ := Lib.hid hq
  rw [hq]
  clear hq
  cases q with
  | false =>
    have HE := Lib.hid (show d.placeE i s.size = 4 by unfold DiskD.placeE; rw [HQ.out]; simp)
    go_wp2_with fail
    go_ret
    exact ⟨by rw [HE.out]; rfl, rfl⟩
  | true =>
    by_cases hs : s.size = 4096
    · have h1 : (s.size : Int) = 4096 := by omega
      have HE := Lib.hid (show d.placeE i s.size = 0 by unfold DiskD.placeE; rw [HQ.out]; simp [hs])
      clear hs
      go_wp2_with fail
      go_ret
      exact ⟨by rw [HE.out]; rfl, rfl⟩
    · have h1 : (s.size : Int) ≠ 4096 := by omega
      have HE := Lib.hid (show d.placeE i s.size = 2 by unfold DiskD.placeE; rw [HQ.out]; simp [hs])
      clear hs
      go_wp2_with fail
      go_ret
      exact ⟨by rw [HE.out]; rfl, rfl⟩
end Go.Proofs.YtppdboadjefieaaGreat
