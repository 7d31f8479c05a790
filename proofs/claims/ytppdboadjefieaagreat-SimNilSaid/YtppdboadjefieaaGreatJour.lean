/- A journal's steps (chapter 25): write, and its closure. -/
import Derived.Test.YtppdboadjefieaaGreatDisk5
import Derived.Test.YtppdboadjefieaaGreatObj2
namespace Go.Proofs.YtppdboadjefieaaGreat
set_option linter.unusedSimpArgs false
set_option linter.unusedVariables false
open Go Go.RowKit
set_option linter.unusedVariables false
set_option maxRecDepth 100000

/-- What a step that writes captures. -/
structure StepAt (w : World) (jb p3 p4 p5 : Nat) (i : Int) (s : ByteArray) : Prop where
  j : Blk w p3 [.pointer (some ⟨jb, 0, none⟩)] 43
  i : Blk w p4 [.int .i64 i] 3
  s : Blk w p5 [.string s] 9
theorem StepAt.below {w w' : World} {jb p3 p4 p5 : Nat} {i : Int} {s : ByteArray} (h : StepAt w jb p3 p4 p5 i s) (hb : Below w.heap.size w w') : StepAt w' jb p3 p4 p5 i s :=
  ⟨h.j.below hb h.j.lt, h.i.below hb h.i.lt, h.s.below hb h.s.lt⟩
theorem StepAt.turned {S : List Nat} {w w' : World} {jb p3 p4 p5 : Nat} {i : Int} {s : ByteArray} (h : StepAt w jb p3 p4 p5 i s) (t : Turned S w w') (h3 : p3 ∉ S) (h4 : p4 ∉ S) (h5 : p5 ∉ S) : StepAt w' jb p3 p4 p5 i s :=
  ⟨t.blk h.j h3, t.blk h.i h4, t.blk h.s h5⟩
theorem jwrite_walk (jb : Nat) (i : Int) (s : ByteArray) (w : World) :
    Calls Tryz.prog 148 #[.pointer (some ⟨jb, 0, none⟩), .int .i64 i, .string s] w fun e w' => (∃ p3 p4 p5, e = .returned (.func (.func 237) #[] #[.pointer (some ⟨p3, 0, none⟩), .pointer (some ⟨p4, 0, none⟩), .pointer (some ⟨p5, 0, none⟩)]) ∧ StepAt w' jb p3 p4 p5 i s ∧ w.heap.size ≤ p3 ∧ w.heap.size ≤ p4 ∧ w.heap.size ≤ p5) ∧ Below w.heap.size w w' := by
  have hmf : ∀ (fn : Fn) (first cap : Array Value) (w : World), (Instr.makeFunc fn first cap).run Tryz.prog w = .ok (.func fn first cap) w := fun _ _ _ _ => rfl
  go_enter Tryz.func148, Tryz.ntmps148
  go_wp2_with (first
    | ((with_reducible refine wpList_box_one 43 (.tmp 0) (.pointer (some ⟨jb, 0, none⟩)) rfl (some 3) ?hgd ?ho ?hd ?hx ?_); (case hgd => rfl); (case ho => rfl); (case hd => rfl); (case hx => rfl); (intro b1 w1 l1 B1 e1 z1))
    | ((with_reducible refine wpList_box_one 3 (.tmp 1) (.int .i64 i) rfl (some 4) ?hgd ?ho ?hd ?hx ?_); (case hgd => rfl); (case ho => rfl); (case hd => rfl); (case hx => rfl); (intro b2 w2 l2 B2 e2 z2))
    | ((with_reducible refine wpList_box_one 9 (.tmp 2) (.string s) rfl (some 5) ?hgd ?ho ?hd ?hx ?_); (case hgd => rfl); (case ho => rfl); (case hd => rfl); (case hx => rfl); (intro b3 w3 l3 B3 e3 z3))
    | fail)
  go_ret
  have g1 : w.heap.size ≤ b2 := Nat.le_trans l1 (Nat.le_of_lt (Nat.lt_of_lt_of_le z1 l2))
  have g2 : w.heap.size ≤ b3 := Nat.le_trans g1 (Nat.le_of_lt (Nat.lt_of_lt_of_le z2 l3))
  exact ⟨⟨b1, b2, b3, rfl, ⟨(B1.below e2 (Nat.lt_of_lt_of_le z1 l2)).below e3 (by omega), B2.below e3 (Nat.lt_of_lt_of_le z2 l3), B3⟩, l1, g1, g2⟩, ((e1.mono l1).trans (e2.mono g1)).trans (e3.mono g2)⟩
set_option maxHeartbeats 1000000 in
theorem jwrite1_walk (jb db p3 p4 p5 : Nat) (d : DiskD) (i : Int) (s : ByteArray) (w : World) (h : DiskAt w db d) (hj : w.cell? ⟨jb, 1, none⟩ = some (.pointer (some ⟨db, 0, none⟩))) (hst : StepAt w jb p3 p4 p5 i s)
    (hd : d.down = false) (hl : d.left = 0) (hc : d.cs.length < 4096) (hi : 0 ≤ i) (hi2 : i < d.bs.length) (hs : s.size = 4096) :
    Calls Tryz.prog 237 #[.pointer (some ⟨p3, 0, none⟩), .pointer (some ⟨p4, 0, none⟩), .pointer (some ⟨p5, 0, none⟩)] w fun e w' => e = .returned (.int .i64 0) ∧ ∃ cv', DiskTo w w' db d { d with cv := cv', cs := d.cs ++ [(i, s)] } := by
  have c3 := hst.j.cell (i := 0) rfl
  have c4 := hst.i.cell (i := 0) rfl
  have c5 := hst.s.cell (i := 0) rfl
  have HH := Lib.hid h
  have HI := Lib.hid (And.intro hi hi2)
  have HS := Lib.hid hs
  have HC := Lib.hid hc
  clear h hst hi hi2 hs hc
  go_enter Tryz.func237, Tryz.ntmps237
  go_wp2_with fail
  refine wp_region_still_tail_drew 6 (by kernel_rfl) (by kernel_rfl) ?_
  simp only [List.take_succ_cons, List.take_zero, List.drop_succ_cons, List.drop_zero]
  iterate 6 still_step
  refine wpStill_nil ?_
  go_wp2_with fail
  have hA := HH.out.below ((Below.refl w.heap.size w).drew)
  refine (dwrite_walk db d _ hA hd hl HC.out i s HI.out.1 HI.out.2 HS.out).mono ?_
  rintro e w2 ⟨rfl, cv', ht⟩
  have HT := Lib.hid (DiskTo.ahead ((Below.refl w.heap.size w).drew) ht)
  clear ht hA
  go_wp2_with fail
  go_ret
  exact ⟨rfl, cv', HT.out⟩
end Go.Proofs.YtppdboadjefieaaGreat
