/- A disk in memory (chapter 8): what it has, and what becomes of it where other blocks turn. -/
import Derived.Test.YtppdboadjefieaaGreatOwnAt
namespace Go.Proofs.YtppdboadjefieaaGreat
set_option linter.unusedSimpArgs false
set_option linter.unusedVariables false
open Go Go.RowKit
set_option linter.unusedVariables false

/-- A disk: its blocks, the writes that were not flushed, whether the power is gone, at which step it goes. -/
structure DiskD where
  bv : Value
  bs : List ByteArray
  cv : Value
  cs : List (Int × ByteArray)
  down : Bool
  left : Int
def DiskD.cells (d : DiskD) : List Value := [d.bv, d.cv, .bool true, .bool d.down, .int .i64 d.left]
def putCells (p : Int × ByteArray) : List Value := [.int .i64 p.1, .string p.2]
def flatP (l : List (Int × ByteArray)) : List Value := l.flatMap putCells
theorem flatP_length (l : List (Int × ByteArray)) : (flatP l).length = l.length * 2 := by
  induction l with
  | nil => rfl
  | cons a r ih => show (putCells a ++ flatP r).length = _; rw [List.length_append, ih, List.length_cons]; show 2 + _ = _; omega
theorem flatP_snoc (l : List (Int × ByteArray)) (p : Int × ByteArray) : flatP (l ++ [p]) = flatP l ++ putCells p := by simp [flatP]
theorem flatP_at (l : List (Int × ByteArray)) : ∀ (j : Nat) (p : Int × ByteArray), l[j]? = some p → (flatP l)[j * 2]? = some (.int .i64 p.1) ∧ (flatP l)[j * 2 + 1]? = some (.string p.2) := by
  induction l with
  | nil => intro j p h; simp at h
  | cons a r ih =>
    intro j p h
    cases j with
    | zero => simp at h; subst h; exact ⟨rfl, rfl⟩
    | succ j =>
      have := ih j p (by simpa using h)
      show (putCells a ++ flatP r)[(j + 1) * 2]? = _ ∧ (putCells a ++ flatP r)[(j + 1) * 2 + 1]? = _
      rw [List.getElem?_append_right (by show 2 ≤ _; omega), List.getElem?_append_right (by show 2 ≤ _; omega)]
      rw [show (j + 1) * 2 - (putCells a).length = j * 2 by show (j + 1) * 2 - 2 = _; omega, show (j + 1) * 2 + 1 - (putCells a).length = j * 2 + 1 by show (j + 1) * 2 + 1 - 2 = _; omega]
      exact this
/-- The blocks of memory that a disk has. -/
def DiskD.foot (d : DiskD) (db : Nat) : List Nat := db :: (d.bv.ownBlock.toList ++ d.cv.ownBlock.toList)
structure DiskAt (w : World) (db : Nat) (d : DiskD) : Prop where
  blk : Blk w db d.cells 124
  rb : w.ownsRow 0 9 1 d.bv d.bs.length (d.bs.map .string)
  rc : w.ownsRow 0 129 2 d.cv d.cs.length (flatP d.cs)
  n1 : d.bv.ownBlock ≠ some db
  n2 : d.cv.ownBlock ≠ some db
  n3 : ∀ g, d.bv.ownBlock = some g → d.cv.ownBlock ≠ some g
theorem DiskD.mem1 {d : DiskD} {db k : Nat} (h : d.bv.ownBlock = some k) : k ∈ d.foot db := by simp [DiskD.foot, h]
theorem DiskD.mem2 {d : DiskD} {db k : Nat} (h : d.cv.ownBlock = some k) : k ∈ d.foot db := by simp [DiskD.foot, h]
theorem DiskAt.turned {S : List Nat} {w w' : World} {db : Nat} {d : DiskD} (h : DiskAt w db d) (t : Turned S w w') (hS : ∀ x, x ∈ d.foot db → x ∉ S) : DiskAt w' db d :=
  ⟨t.blk h.blk (hS db (by simp [DiskD.foot])), own_turned h.rb t (fun k hk => hS k (DiskD.mem1 hk)), own_turned h.rc t (fun k hk => hS k (DiskD.mem2 hk)), h.n1, h.n2, h.n3⟩
theorem DiskAt.below {w w' : World} {db : Nat} {d : DiskD} (h : DiskAt w db d) (hb : Below w.heap.size w w') : DiskAt w' db d :=
  h.turned (S := []) (Turned.of_below hb (Nat.le_refl _)) (by simp)
theorem DiskAt.lt {w : World} {db : Nat} {d : DiskD} (h : DiskAt w db d) : ∀ x, x ∈ d.foot db → x < w.heap.size := by
  intro x hx
  simp only [DiskD.foot, List.mem_cons, List.mem_append, Option.mem_toList, Option.mem_def] at hx
  rcases hx with rfl | hx | hx
  · exact h.blk.lt
  · exact (h.rb.lt x hx).2
  · exact (h.rc.lt x hx).2
/-- What the last one of the first writes of a place wrote. -/
def lastAt (cs : List (Int × ByteArray)) (i : Int) : Nat → Option ByteArray
  | 0 => none
  | k + 1 => if (cs.getD k (0, ByteArray.empty)).1 = i then some (cs.getD k (0, ByteArray.empty)).2 else lastAt cs i k
/-- What a place shows. -/
def DiskD.shown (d : DiskD) (i : Int) : ByteArray := (lastAt d.cs i d.cs.length).getD (d.bs.getD i.toNat ByteArray.empty)
/-- A step: is the power gone then, and how many are left? -/
def DiskD.step (d : DiskD) : DiskD := if 0 < d.left then { d with left := d.left - 1, down := d.left - 1 == 0 } else d
/-- How a call of a disk leaves it: such a disk, at blocks of its own or such as were not there. -/
structure DiskTo (w w' : World) (db : Nat) (d d' : DiskD) : Prop where
  at' : DiskAt w' db d'
  turned : Turned (d.foot db) w w'
  foot : ∀ x, x ∈ d'.foot db → x ∈ d.foot db ∨ w.heap.size ≤ x
theorem DiskTo.refl {w : World} {db : Nat} {d : DiskD} (h : DiskAt w db d) : DiskTo w w db d d := ⟨h, Turned.refl _ _, fun _ hx => .inl hx⟩
theorem DiskTo.trans {u v w : World} {db : Nat} {d d' d'' : DiskD} (h : DiskTo u v db d d') (k : DiskTo v w db d' d'') : DiskTo u w db d d'' :=
  ⟨k.at', h.turned.on k.turned h.foot, fun x hx => (k.foot x hx).elim (fun h1 => h.foot x h1) (fun h1 => .inr (Nat.le_trans h.turned.size h1))⟩
theorem DiskTo.below {u v w : World} {db : Nat} {d d' : DiskD} (h : DiskTo u v db d d') (hb : Below v.heap.size v w) : DiskTo u w db d d' :=
  ⟨h.at'.below hb, h.turned.trans (Turned.of_below hb (Nat.le_refl _)), h.foot⟩
theorem DiskTo.ahead {u v w : World} {db : Nat} {d d' : DiskD} (hb : Below u.heap.size u v) (h : DiskTo v w db d d') : DiskTo u w db d d' :=
  ⟨h.at', (Turned.of_below hb (Nat.le_refl _)).trans h.turned, fun x hx => (h.foot x hx).elim .inl (fun h1 => .inr (Nat.le_trans hb.size h1))⟩
end Go.Proofs.YtppdboadjefieaaGreat
