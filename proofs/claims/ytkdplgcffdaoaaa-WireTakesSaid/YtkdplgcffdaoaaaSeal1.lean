/- Walks of chain.begin, records, beyond, and of Follow at an epoch that may not be (chapter 20). -/
import Derived.Test.YtkdplgcffdaoaaaSealS
import Derived.Test.YtkdplgcffdaoaaaG1
import Derived.Deep.QuietTactic
import Derived.BigQuiet
import Derived.Deep.RegionWith
import Derived.Deep.DeepAppendWide
import Derived.Deep.DeepCutAuto
import Derived.OneCell
namespace Go.Proofs.Ytkdplgcffdaoaaa
set_option linter.unusedSimpArgs false
set_option linter.unusedVariables false
open Go Go.RowKit
set_option linter.unusedVariables false

/-- A sealer's cells. -/
def slrCells (key : ByteArray) (ep : Int) (was : ByteArray) (seq : Int) : List Value := [.string key, .int .i64 ep, .string was, .int .i64 seq]
def epochAt (w : World) (b : Nat) : Int := match w.cell? ⟨b, 1, none⟩ with | some (.int _ n) => n | _ => 0
theorem atL_succ (root : List UInt8) (f j : Nat) : atL root f (j + 1) = madeL (atL root f j) [110, 101, 120, 116] [] := rfl
theorem Kept.blkNe {b : Nat} {w w' : World} (h : Kept b w w') {b' : Nat} {x : Rec} (hb : RecAt w b' x) (hne : b' ≠ b) : RecAt w' b' x := by
  have k : ∀ i, w'.cell? ⟨b', i, none⟩ = w.cell? ⟨b', i, none⟩ := fun i => by simp [World.cell?, h.block b' hb.lt hne]
  exact ⟨by have := h.size; have := hb.lt; omega, by rw [k]; exact hb.c0, by rw [k]; exact hb.c1, by rw [k]; exact hb.c2, by rw [k]; exact hb.c3, by rw [k]; exact hb.c4, by rw [k]; exact hb.c5, by rw [k]; exact hb.c6, by rw [k]; exact hb.c7⟩

def flatC (l : List Rec) : List Value := l.flatMap Rec.cells
theorem flatC_snoc (l : List Rec) (r : Rec) : flatC (l ++ [r]) = flatC l ++ r.cells := by simp [flatC]
theorem flatC_at (ys : List Rec) : ∀ (j : Nat) (y : Rec), ys[j]? = some y → ∀ (i : Nat) (u : Value), y.cells[i]? = some u → (flatC ys)[j * 8 + i]? = some u := by
  induction ys with
  | nil => intro j y h; simp at h
  | cons a r ih =>
    intro j y h i u hu
    have ha : a.cells.length = 8 := rfl
    show (a.cells ++ flatC r)[_]? = _
    cases j with
    | zero =>
      simp at h
      subst h
      have := (List.getElem?_eq_some_iff.1 hu).1
      rw [List.getElem?_append_left (by omega), Nat.zero_mul, Nat.zero_add]
      exact hu
    | succ j =>
      rw [List.getElem?_append_right (by omega), ha, show (j + 1) * 8 + i - 8 = j * 8 + i by omega]
      exact ih j y (by simpa using h) i u hu
theorem RecRow.below {w w' : World} {v : Value} {l : List Rec} (h : RecRow w v l) {B : Nat} (hb : Below B w w') (hB : w.heap.size ≤ B) : RecRow w' v l := by
  refine h.imp id ?_
  rintro ⟨g, o, c, h1, h2, h3⟩
  exact ⟨g, o, c, h1, by have := hb.size; omega, fun j x hx i u hu => by rw [hb.cell (by show g < B; omega)]; exact h3 j x hx i u hu⟩
theorem RecRow.own {w : World} {base n : Nat} {v : Value} {xs : List Rec} (h : w.ownsRow base 25 8 v n (flatC xs)) (hn : n = xs.length) : RecRow w v xs := by
  subst hn
  by_cases h0 : xs = []
  · subst h0
    exact .inl ⟨rfl, own_nil h⟩
  · obtain ⟨g, cap, z, rfl, hc, hb, hk⟩ := own_split h (List.length_pos_iff.2 h0)
    refine .inr ⟨g, 0, cap, rfl, hk.lt, fun j x hx i u hu => ?_⟩
    refine hk.cell ?_
    have h1 := flatC_at xs j x hx i u hu
    rw [Nat.zero_add, List.getElem?_append_left (List.getElem?_eq_some_iff.1 h1).1]
    exact h1
theorem infoRec : (Try.prog.info? 25).map (fun i => (i.zero, i.size, i.bytes)) = some (some (.agg Rec.zero.cells.toArray), 8, 80) := by kernel_rfl
theorem zeroSld (w : World) : Sem.run Try.prog (zeroValue 27) w = .ok (.agg (Sld.cells ⟨Rec.zero, ⟨#[]⟩⟩).toArray) w := by kernel_rfl
theorem rsizeSld {x : Sld} : (Try.prog.info? 27).map (·.size) = some x.cells.length := by kernel_rfl
theorem Sld.cells_one (x : Sld) : ∀ v ∈ x.cells, v.oneCell' = true := by intro v hv; simp [Sld.cells] at hv; rcases hv with rfl | rfl | rfl | rfl | rfl | rfl | rfl | rfl | rfl <;> rfl
theorem Rec.cells_one1 (x : Rec) : ∀ v ∈ x.cells, v.oneCell' = true := by intro v hv; simp [Rec.cells] at hv; rcases hv with rfl | rfl | rfl | rfl | rfl | rfl | rfl | rfl <;> rfl

end Go.Proofs.Ytkdplgcffdaoaaa
