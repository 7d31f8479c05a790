/- What a statement's parameters hand to its walk: rows of numbers, rows of texts. -/
import Derived.Test.YtacoibiafpdoaaaWDerive2
import Derived.Deep.Slices
import Derived.SliceStrings
import Derived.Carry
namespace Go.Proofs.Ytacoibiafpdoaaa
open Go Go.RowKit Go.ChangeShapes Go.WideShapes
set_option linter.unusedVariables false

/-- A number that fits. -/
def Fits (x : Int) : Prop := -9223372036854775808 ≤ x ∧ x ≤ 9223372036854775807
theorem fits_of_wf {x : Int} (h : (Lit.int .i64 x).wf = true) : Fits x := by
  simp only [Lit.wf, Bool.and_eq_true, decide_eq_true_eq] at h
  exact ⟨h.1, h.2⟩

/-- A row of numbers that came in. -/
structure IntsIn (w : World) (v : Value) (xs : List Int) : Prop where
  row : IntRow w v xs
  fits : ∀ (j : Nat) (x : Int), xs[j]? = some x → Fits x

theorem lt_of_cell {w : World} {b i : Nat} {v : Value} (h : w.cell? ⟨b, i, none⟩ = some v) : b < w.heap.size := by
  by_cases hb : b < w.heap.size
  · exact hb
  · simp [World.cell?, Array.getElem?_eq_none (Nat.not_lt.1 hb)] at h

section
variable {H : Type} {enc : TypeId × Value → H} {P : Program} {w : World} {base : Nat} {spare : Nat → Bool} {held : Bool}

theorem ints_in {t e : TypeId} {v : Value} {d : DataW H} {ps : List MemPlace} (ht : P.underlying t = some (.slice e)) (he : P.underlying e = some (.int .i64)) (hc : P.cellsOf e = 1)
    (hv : ∃ a len cap, v = .slice a len cap) (h : DataW.Trod enc P w base spare held t v d ps) : ∃ xs, IntsIn w v xs := by
  obtain ⟨a0, l0, c0, rfl⟩ := hv
  obtain ⟨fuel, hf⟩ := h
  rcases open_ints ht he hc hf with ⟨hcs, _⟩ | ⟨a, len, cap, zs, hcs, _, hl, hm, hz, _, hcell, hwf⟩
  · simp [Value.cells] at hcs
    obtain ⟨rfl, rfl, rfl⟩ := hcs
    exact ⟨[], .inl ⟨rfl, _, _, rfl⟩, fun j x h => by simp at h⟩
  · simp [Value.cells] at hcs
    obtain ⟨rfl, rfl, rfl⟩ := hcs
    by_cases h0 : l0 = 0
    · subst h0
      exact ⟨[], .inl ⟨rfl, _, _, rfl⟩, fun j x h => by simp at h⟩
    · have hzl : l0 ≤ zs.length := by rw [hz]; split <;> omega
      have h1 := hcell 0 (by omega)
      have hsp := World.cell?_spot h1
      obtain ⟨g, o, s⟩ := a
      simp [Addr.add] at hsp
      subst hsp
      have hlen : (zs.take l0).length = l0 := by simp [hzl]
      refine ⟨zs.take l0, .inr ⟨g, o, c0, by rw [hlen], lt_of_cell (by simpa [Addr.add] using h1), fun j x hx => ?_⟩, fun j x hx => ?_⟩
      · have hj : j < l0 := by have := (List.getElem?_eq_some_iff.1 hx).1; omega
        have := hcell j (by omega)
        rw [List.getElem?_take_of_lt hj] at hx
        rw [List.getD_eq_getElem?_getD, hx] at this
        rw [← Addr.add_mid]
        exact this
      · have hj : j < l0 := by have := (List.getElem?_eq_some_iff.1 hx).1; omega
        rw [List.getElem?_take_of_lt hj] at hx
        exact fits_of_wf (hwf x (List.mem_of_getElem? hx))

/-- A row of texts that came in. -/
structure StrsIn (w : World) (v : Value) (xs : List ByteArray) : Prop where
  row : (xs = [] ∧ ∃ (p : Option Addr) (c : Nat), v = .slice p 0 c) ∨
    ∃ g o c, v = .slice (some ⟨g, o, none⟩) xs.length c ∧ xs.length ≤ c ∧ g < w.heap.size ∧ ∀ (j : Nat) (x : ByteArray), xs[j]? = some x → w.cell? ⟨g, o + j, none⟩ = some (.string x)

theorem strs_in {t e : TypeId} {v : Value} {d : DataW H} {ps : List MemPlace} (ht : P.underlying t = some (.slice e)) (he : P.underlying e = some .string) (hc : P.cellsOf e = 1)
    (hv : ∃ a len cap, v = .slice a len cap) (h : DataW.Trod enc P w base spare held t v d ps) : ∃ xs, StrsIn w v xs := by
  obtain ⟨a0, l0, c0, rfl⟩ := hv
  obtain ⟨fuel, hf⟩ := h
  rcases open_strings ht he hc hf with ⟨hcs, _⟩ | ⟨a, len, cap, zs, hcs, _, hl, hm, hz, _, hcell, hwf⟩
  · simp [Value.cells] at hcs
    obtain ⟨rfl, rfl, rfl⟩ := hcs
    exact ⟨[], ⟨.inl ⟨rfl, _, _, rfl⟩⟩⟩
  · simp [Value.cells] at hcs
    obtain ⟨rfl, rfl, rfl⟩ := hcs
    by_cases h0 : l0 = 0
    · subst h0
      exact ⟨[], ⟨.inl ⟨rfl, _, _, rfl⟩⟩⟩
    · have hzl : l0 ≤ zs.length := by rw [hz]; split <;> omega
      have h1 := hcell 0 (by omega)
      have hsp := World.cell?_spot h1
      obtain ⟨g, o, s⟩ := a
      simp [Addr.add] at hsp
      subst hsp
      have hlen : (zs.take l0).length = l0 := by simp [hzl]
      refine ⟨zs.take l0, ⟨.inr ⟨g, o, c0, by rw [hlen], by omega, lt_of_cell (by simpa [Addr.add] using h1), fun j x hx => ?_⟩⟩⟩
      have hj : j < l0 := by have := (List.getElem?_eq_some_iff.1 hx).1; omega
      have := hcell j (by omega)
      rw [List.getElem?_take_of_lt hj] at hx
      rw [List.getD_eq_getElem?_getD, hx] at this
      rw [← Addr.add_mid]
      exact this

theorem trod_lt' {t : TypeId} {v : Value} {d : DataW H} {ps : List MemPlace} (h : DataW.Trod enc P w base spare held t v d ps) : ∀ x ∈ ps, x.block < w.heap.size := by
  obtain ⟨m, hm⟩ := h
  exact DataW.trod_lt m _ _ _ hm
end

theorem IntsIn.below {w w' : World} {v : Value} {xs : List Int} (h : IntsIn w v xs) {B : Nat} (hb : Below B w w') (hB : w.heap.size ≤ B) : IntsIn w' v xs := ⟨h.row.below hb hB, h.fits⟩
theorem StrsIn.below {w w' : World} {v : Value} {xs : List ByteArray} (h : StrsIn w v xs) {B : Nat} (hb : Below B w w') (hB : w.heap.size ≤ B) : StrsIn w' v xs := by
  refine ⟨h.row.imp id ?_⟩
  rintro ⟨g, o, c, h1, hc, h2, h3⟩
  exact ⟨g, o, c, h1, hc, by have := hb.size; omega, fun j x hx => by rw [hb.cell (by show g < B; omega)]; exact h3 j x hx⟩
end Go.Proofs.Ytacoibiafpdoaaa
