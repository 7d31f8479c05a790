/- What a statement's parameters hand to its walk: a row of sealed records. -/
import Derived.Test.YtacoibiafpdoaaaOpen2
import Derived.Test.YtacoibiafpdoaaaChain3
namespace Go.Proofs.Ytacoibiafpdoaaa
open Go Go.RowKit Go.ChangeShapes Go.WideShapes Go.Deep
set_option linter.unusedVariables false

/-- A row of sealed records that came in. -/
structure SldsIn (w : World) (v : Value) (l : List Sld) : Prop where
  row : SldRow w v l
  fits : ∀ (j : Nat) (x : Sld), l[j]? = some x → RecFits x.r

section
variable {H : Type} {enc : TypeId × Value → H} {w : World} {base : Nat} {spare : Nat → Bool} {held : Bool}
set_option maxRecDepth 100000 in
theorem sld_trod {fuel : Nat} {cs : List Value} {x : DataW H × List MemPlace} (h : DataW.trod enc Try.prog w base spare held fuel 69 cs = some x) : ∃ s : Sld, cs = s.cells ∧ RecFits s.r := by
  obtain ⟨xs, n, _, _, hl, hlen, hf⟩ := DataW.trod_struct Try.underlying69 h
  have hc : Try.prog.cellsOf 69 = 9 := by kernel_rfl
  have k1 : Try.prog.cellsOf 32 = 8 := by kernel_rfl
  have k2 : Try.prog.cellsOf 9 = 1 := by kernel_rfl
  rw [hc] at hl
  match xs, hlen with
  | [y0, y1], _ =>
    have g0 : DataW.trod enc Try.prog w base spare held n 32 (List.take (Try.prog.cellsOf 32) (List.drop 0 cs)) = some y0 := hf 0 _ rfl
    have g1 : DataW.trod enc Try.prog w base spare held n 9 (List.take (Try.prog.cellsOf 9) (List.drop 8 cs)) = some y1 := hf 1 _ rfl
    rw [k1] at g0
    rw [k2] at g1
    obtain ⟨r, hr, hfit⟩ := rec_trod g0
    obtain ⟨s, hs, _, _⟩ := DataW.trod_string Try.underlying9 g1
    refine ⟨⟨r, s⟩, ?_, hfit⟩
    have e1 : cs = cs.take 8 ++ cs.drop 8 := (List.take_append_drop 8 cs).symm
    have e2 : (cs.drop 8).take 1 = cs.drop 8 := List.take_of_length_le (by rw [List.length_drop, hl]; omega)
    rw [e1, ← e2, hs]
    rw [List.drop_zero] at hr
    rw [hr]
    rfl

theorem slds_in {v : Value} {d : DataW H} {ps : List MemPlace} (hv : ∃ a len cap, v = .slice a len cap) (h : DataW.Trod enc Try.prog w base spare held 30 v d ps) : ∃ l, SldsIn w v l := by
  obtain ⟨a0, l0, c0, rfl⟩ := hv
  obtain ⟨fuel, hf⟩ := h
  rcases open_slice Try.underlying30 hf with ⟨hcs, _⟩ | ⟨a, len, cap, m, n, D, Pl, hcs, _, hl, hm, hmm, _, hi⟩
  · simp [Value.cells] at hcs
    obtain ⟨rfl, rfl, rfl⟩ := hcs
    exact ⟨[], ⟨.inl ⟨rfl, _, _, rfl⟩, fun j x h => by simp at h⟩⟩
  · simp [Value.cells] at hcs
    obtain ⟨rfl, rfl, rfl⟩ := hcs
    have hc : Try.prog.cellsOf 69 = 9 := by kernel_rfl
    rw [hc] at hi
    by_cases h0 : l0 = 0
    · subst h0
      exact ⟨[], ⟨.inl ⟨rfl, _, _, rfl⟩, fun j x h => by simp at h⟩⟩
    · have hlm : l0 ≤ m := by rw [hmm]; split <;> omega
      have each : ∀ i, i < m → ∃ s : Sld, (∀ j u, s.cells[j]? = some u → w.cell? (a.add (i * 9 + j)) = some u) ∧ RecFits s.r := by
        intro i him
        obtain ⟨cs', h1, h2⟩ := hi i him
        obtain ⟨s, hs, hfit⟩ := sld_trod h2
        refine ⟨s, fun j u hu => ?_, hfit⟩
        obtain ⟨_, hlen, hat⟩ := World.cells?_some h1
        have hj := (List.getElem?_eq_some_iff.1 hu).1
        have := hat j (by rw [hs] at hlen; omega)
        rw [Deep.add_add] at this
        rw [this, hs, hu]
      haveI : Inhabited Sld := ⟨⟨Rec.zero, ⟨#[]⟩⟩⟩
      obtain ⟨f, hfn⟩ := choose_lt each
      obtain ⟨s0, hs0⟩ : ∃ s0, s0 = f 0 := ⟨_, rfl⟩
      have h1 := (hfn 0 (by omega)).1 0 _ rfl
      rw [Nat.zero_mul] at h1
      have hsp := World.cell?_spot h1
      obtain ⟨g, o, s⟩ := a
      simp [Addr.add] at hsp
      subst hsp
      refine ⟨(List.range l0).map f, ⟨.inr ⟨g, o, c0, by simp, by simpa using hl, lt_of_cell (by simpa [Addr.add] using h1), fun j x hx => ?_⟩, fun j x hx => ?_⟩⟩
      · obtain ⟨hj, rfl⟩ := List.getElem?_eq_some_iff.1 hx
        simp at hj
        intro i u hu
        have := (hfn j (by omega)).1 i u (by simpa using hu)
        rw [Addr.add_mid] at this
        rw [Nat.add_assoc]
        exact this
      · obtain ⟨hj, rfl⟩ := List.getElem?_eq_some_iff.1 hx
        simp at hj
        simpa using (hfn j (by omega)).2
end
theorem SldsIn.below {w w' : World} {v : Value} {l : List Sld} (h : SldsIn w v l) {B : Nat} (hb : Below B w w') (hB : w.heap.size ≤ B) : SldsIn w' v l := ⟨h.row.below hb hB, h.fits⟩
end Go.Proofs.Ytacoibiafpdoaaa
