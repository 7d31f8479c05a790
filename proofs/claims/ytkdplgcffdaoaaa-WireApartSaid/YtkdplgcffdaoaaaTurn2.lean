/- More laws of worlds that part in some blocks alone; operations behind a guard that is met. No program in sight. -/
import Derived.Test.YtkdplgcffdaoaaaTurn
import Derived.Great.BuildSlice
namespace Go.Proofs.Ytkdplgcffdaoaaa
set_option linter.unusedSimpArgs false
set_option linter.unusedVariables false
open Go Go.RowKit
set_option linter.unusedVariables false

section
variable {P : Program} {ops : Array Oper} {rest : List Oper} {o : Oper} {a : Act} {w : World} {Q : Exit → Act → World → Prop}
/-- An operation behind a guard that is met. -/
theorem wpList_met (hg : Region.wanted o (yielded ops a.tmps) = true) (h : ∀ K : Act → World → Prop, (∀ a w, wpList P ops Q rest a w → K a w) → o.wp P a w K Q) : wpList P ops Q (o :: rest) a w :=
  wpList_step fun K hK => by simp only [hg, if_true]; exact h K hK
/-- A slice literal behind a guard that is met. -/
theorem wpList_slice_met (t e : TypeId) (len : Nat) (parts : Array (Nat × Operand)) (cells : List Value) (z : Value) (sz byt : Nat) (d : Option Tmp)
    (hu : P.underlying t = some (.slice e)) (hi : (P.info? e).map (fun i => (i.zero, i.size, i.bytes)) = some (some z, sz, byt)) (hsm : len * sz ≤ 16777216) (hpos : 0 < len * sz)
    (hg : Region.wanted o (yielded ops a.tmps) = true) (ho : o.op = .buildSlice t len parts) (hd : o.dst = d)
    (hf : Instr.fill (fun i => some (i * sz, sz)) ((Array.range (len * sz)).map (z.cells[· % z.cells.size]!)) (parts.map fun (i, x) => (i, a.eval x)).toList = some cells.toArray)
    (h : ∀ g w', w.heap.size ≤ g → Blk w' g cells e → Below g w w' → g < w'.heap.size → wpList P ops Q rest (a.put d (.slice (some ⟨g, 0, none⟩) len len)) w') : wpList P ops Q (o :: rest) a w := by
  subst hd
  cases hie : P.info? e with
  | none => simp [hie] at hi
  | some ie =>
    simp only [hie, Option.map_some, Option.some.injEq, Prod.mk.injEq] at hi
    obtain ⟨h1, h2, _⟩ := hi
    subst h2
    exact wpList_met hg fun _ hK => wp_buildSlice t e len parts ho cells.toArray ie z hu hie h1 (by omega) (by omega) hf (hK _ _ (h _ _ (Nat.le_refl _) (Blk.new w cells e) ((Below.refl _ _).alloc (Nat.le_refl _) _) (by simp)))
end
theorem Turned.past {S T : List Nat} {u v w : World} (h : Turned S u v) (k : Turned T v w) (hT : ∀ x, x ∈ T → x ∈ S ∨ u.heap.size ≤ x) : Turned S u w :=
  ⟨by rw [k.os, h.os], by rw [k.tape, h.tape], by rw [k.output, h.output], Nat.le_trans h.size k.size, fun i hi hn => by
    rw [k.block i (Nat.lt_of_lt_of_le hi h.size) (fun hm => (hT i hm).elim hn (fun h1 => by omega)), h.block i hi hn]⟩
end Go.Proofs.Ytkdplgcffdaoaaa
