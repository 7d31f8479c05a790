/- Going through places that show noughts (chapter 25): unlike, which hands nothing on then. -/
import Derived.Test.YtppdboadjefieaaGreatJour3
namespace Go.Proofs.YtppdboadjefieaaGreat
set_option linter.unusedSimpArgs false
set_option linter.unusedVariables false
open Go Go.RowKit
set_option linter.unusedVariables false
set_option maxRecDepth 100000

/-- What the iterator captures. -/
structure UnlikeAt (w : World) (db pf pt pd : Nat) (a z : Int) : Prop where
  f : Blk w pf [.int .i64 a] 3
  t : Blk w pt [.int .i64 z] 3
  d : Blk w pd [.pointer (some ⟨db, 0, none⟩)] 52
theorem UnlikeAt.below {w w' : World} {db pf pt pd : Nat} {a z : Int} (h : UnlikeAt w db pf pt pd a z) (hb : Below w.heap.size w w') : UnlikeAt w' db pf pt pd a z :=
  ⟨h.f.below hb h.f.lt, h.t.below hb h.t.lt, h.d.below hb h.d.lt⟩
theorem unlike_walk (db : Nat) (a z : Int) (w : World) :
    Calls Tryz.prog 167 #[.pointer (some ⟨db, 0, none⟩), .int .i64 a, .int .i64 z] w fun e w' => (∃ pf pt pd, e = .returned (.func (.func 261) #[] #[.pointer (some ⟨pf, 0, none⟩), .pointer (some ⟨pt, 0, none⟩), .pointer (some ⟨pd, 0, none⟩)]) ∧ UnlikeAt w' db pf pt pd a z) ∧ Below w.heap.size w w' := by
  have hmf : ∀ (fn : Fn) (first cap : Array Value) (w : World), (Instr.makeFunc fn first cap).run Tryz.prog w = .ok (.func fn first cap) w := fun _ _ _ _ => rfl
  go_enter Tryz.func167, Tryz.ntmps167
  go_wp2_with (first
    | ((with_reducible refine wpList_box_one 52 (.tmp 0) (.pointer (some ⟨db, 0, none⟩)) rfl (some 3) ?hgd ?ho ?hd ?hx ?_); (case hgd => rfl); (case ho => rfl); (case hd => rfl); (case hx => rfl); (intro b1 w1 l1 B1 e1 z1))
    | ((with_reducible refine wpList_box_one 3 (.tmp 1) (.int .i64 a) rfl (some 4) ?hgd ?ho ?hd ?hx ?_); (case hgd => rfl); (case ho => rfl); (case hd => rfl); (case hx => rfl); (intro b2 w2 l2 B2 e2 z2))
    | ((with_reducible refine wpList_box_one 3 (.tmp 2) (.int .i64 z) rfl (some 5) ?hgd ?ho ?hd ?hx ?_); (case hgd => rfl); (case ho => rfl); (case hd => rfl); (case hx => rfl); (intro b3 w3 l3 B3 e3 z3))
    | fail)
  go_ret
  have g1 : w.heap.size ≤ b2 := Nat.le_trans l1 (Nat.le_of_lt (Nat.lt_of_lt_of_le z1 l2))
  have g2 : w.heap.size ≤ b3 := Nat.le_trans g1 (Nat.le_of_lt (Nat.lt_of_lt_of_le z2 l3))
  exact ⟨⟨b2, b3, b1, rfl, ⟨B2.below e3 (Nat.lt_of_lt_of_le z2 l3), B3, (B1.below e2 (Nat.lt_of_lt_of_le z1 l2)).below e3 (by omega)⟩⟩, ((e1.mono l1).trans (e2.mono g1)).trans (e3.mono g2)⟩
set_option maxHeartbeats 2000000 in
theorem unlike1_walk (yv : Value) (db pf pt pd : Nat) (d : DiskD) (a z : Nat) (w : World) (h : DiskAt w db d) (hu : UnlikeAt w db pf pt pd a z) (haz : a ≤ z) (hz : z ≤ d.bs.length)
    (hd : d.down = false) (hc : d.cs.length ≤ 4096) (hb : d.bs.length ≤ 1024) (hsh : ∀ i, a ≤ i → i < z → d.shown i = (⟨(List.replicate 4096 0).toArray⟩ : ByteArray)) :
    Calls Tryz.prog 261 #[yv, .pointer (some ⟨pf, 0, none⟩), .pointer (some ⟨pt, 0, none⟩), .pointer (some ⟨pd, 0, none⟩)] w fun e w' => e = .returned (.tuple #[]) ∧ Below w.heap.size w w' := by
  have HH := Lib.hid h
  have HU := Lib.hid hu
  have HD := Lib.hid hd
  have HC := Lib.hid hc
  have HB := Lib.hid hb
  have HZ := Lib.hid hz
  have hemp := slotsEmpty_walk
  obtain ⟨nb, hnb⟩ : ∃ nb, (⟨(List.replicate 4096 0).toArray⟩ : ByteArray) = nb := ⟨_, rfl⟩
  rw [hnb] at hsh hemp
  have HSH := Lib.hid hsh
  have HEMP := Lib.hid hemp
  have c1 := hu.f.cell (i := 0) rfl
  clear h hu hd hc hb hz hsh hemp hnb
  go_enter Tryz.func261, Tryz.ntmps261
  go_wp2_with fail
  clear c1
  go_loopw [5] (fun v wr => ∃ k : Nat, a ≤ k ∧ k ≤ z ∧ v = .int .i64 k ∧ Below w.heap.size w wr) (fun v _ => z - (intOf v).toNat)
  case atStart => exact ⟨a, Nat.le_refl _, haz, rfl, Below.refl _ _⟩
  case round =>
    obtain ⟨k, hk0, hk, rfl, hbel⟩ := hrel
    have HBE := Lib.hid hbel
    have HUr := Lib.hid (HU.out.below hbel)
    have HDr := Lib.hid (HH.out.below hbel)
    clear hbel
    have c2 := HUr.out.t.cell (i := 0) rfl
    have c3 := HUr.out.d.cell (i := 0) rfl
    by_cases hlt : k < z
    · have hlt' : (k : Int) < z := by omega
      have hk9 : (k : Int) ≤ 1024 := by have := HZ.out; have := HB.out; omega
      go_wp2_with fail
      refine (dread_walk db d _ HDr.out HD.out k (Nat.lt_of_lt_of_le hlt HZ.out) HC.out HB.out).mono ?_
      rintro e w' ⟨rfl, rfl⟩
      rw [HSH.out k hk0 hlt]
      go_wp2_with fail
      refine (HEMP.out _).mono ?_
      rintro e w2 ⟨rfl, hb2⟩
      have HB2 := Lib.hid (HBE.out.trans (hb2.mono HBE.out.size))
      clear hb2
      go_wp2_with fail
      go_roundw
      case rel => exact ⟨k + 1, by omega, by omega, by go_num, HB2.out⟩
      case measure => simp [intOf]; omega
    · obtain rfl : k = z := by omega
      go_wp2_with fail
      go_end0
      exact ⟨rfl, HBE.out⟩
end Go.Proofs.YtppdboadjefieaaGreat
