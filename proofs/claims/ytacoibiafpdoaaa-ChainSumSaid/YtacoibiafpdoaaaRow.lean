/- Rows of cells behind which something may be frozen (bytes of a string made a slice); variables of one cell. No program in sight. -/
import Derived.Test.YtacoibiafpdoaaaBytes
import Derived.Lib.ConvBytes
import Derived.Great.BuildSlice
namespace Go.Proofs.Ytacoibiafpdoaaa
open Go Go.RowKit

/-- Block b holds these cells, of which none is frozen. -/
def Row (w : World) (b : Nat) (c : List Value) (t : TypeId) : Prop :=
  ∃ fr : Nat × Nat, w.heap[b]? = some (.cells c.toArray t fr) ∧ ∀ i, i < c.length → ¬ (fr.1 ≤ i ∧ i < fr.2)

section
variable {w : World} {b : Nat} {c : List Value} {t : TypeId}
theorem Blk.row (h : Blk w b c t) : Row w b c t := ⟨(0, 0), h, fun i _ => by simp⟩
theorem Row.lt (h : Row w b c t) : b < w.heap.size := by
  obtain ⟨fr, h, _⟩ := h
  exact (Array.getElem?_eq_some_iff.1 h).1
theorem Row.cell? (h : Row w b c t) (i : Nat) : w.cell? ⟨b, i, none⟩ = c[i]? := by
  obtain ⟨fr, h, _⟩ := h
  simp [World.cell?, h]
theorem Row.cell (h : Row w b c t) {i : Nat} {v : Value} (hi : c[i]? = some v) : w.cell? ⟨b, i, none⟩ = some v := by rw [h.cell?, hi]
theorem Row.free (h : Row w b c t) {i : Nat} (hi : i < c.length) : w.frozen? ⟨b, i, none⟩ = false := by
  obtain ⟨fr, h, hf⟩ := h
  have := hf i hi
  simp [World.frozen?, h]
  omega
theorem Row.set (h : Row w b c t) (i : Nat) (v : Value) : Row (w.setCell ⟨b, i, none⟩ v) b (c.set i v) t := by
  obtain ⟨fr, h, hf⟩ := h
  refine ⟨fr, ?_, by simpa using hf⟩
  simp only [World.setCell, Array.getElem?_modify, h]
  simp
theorem Row.set_other (h : Row w b c t) {a : Addr} (ha : b ≠ a.block) (v : Value) : Row (w.setCell a v) b c t := by
  obtain ⟨fr, h, hf⟩ := h
  exact ⟨fr, by rw [Below.heap_setCell _ _ _ _ ha, h], hf⟩
theorem Row.alloc (h : Row w b c t) (o : Obj) : Row (w.alloc o) b c t := by
  have hl := h.lt
  obtain ⟨fr, h, hf⟩ := h
  exact ⟨fr, by rw [Below.heap_alloc _ _ _ hl, h], hf⟩
theorem Row.drew (h : Row w b c t) : Row w.drew b c t := h
theorem Row.drewN (h : Row w b c t) (n : Nat) : Row (w.drewN n) b c t := h
theorem Row.below (h : Row w b c t) {B : Nat} {w' : World} (hb : Below B w w') (hB : b < B) : Row w' b c t := by
  obtain ⟨fr, h, hf⟩ := h
  exact ⟨fr, by rw [hb.block b hB, h], hf⟩
theorem Row.ext (h : Row w b c t) {c' : List Value} (e : c = c') : Row w b c' t := e ▸ h
theorem Row.kept (hb : Row w b c t) {b0 : Nat} {w' : World} (h : Kept b0 w w') (hne : b ≠ b0) : Row w' b c t := by
  have hl := hb.lt
  obtain ⟨fr, hb, hf⟩ := hb
  exact ⟨fr, by rw [h.block b hl hne, hb], hf⟩
theorem Row.only (hb : Row w b c t) {b0 : Nat} {w' : World} (h : Only b0 w w') (hne : b ≠ b0) : Row w' b c t := by
  obtain ⟨fr, hb, hf⟩ := hb
  exact ⟨fr, by rw [h.block b hne, hb], hf⟩
theorem Row.rangeMid {x y z : List Value} (h : Row w b (x ++ y ++ z) t) {off : Nat} (ho : off = x.length) : w.rangeAt b off y := by
  intro j v hv
  subst ho
  refine h.cell ?_
  have hj := (List.getElem?_eq_some_iff.1 hv).1
  rw [List.append_assoc, List.getElem?_append_right (by omega), Nat.add_sub_cancel_left, List.getElem?_append_left hj, hv]
theorem Row.range {x z : List Value} (h : Row w b (x ++ z) t) : w.rangeAt b 0 x := Row.rangeMid (x := []) (y := x) (z := z) (by simpa using h) rfl
end

section
variable {P : Program} {ops : Array Oper} {rest : List Oper} {o : Oper} {a : Act} {w : World} {Q : Exit → Act → World → Prop}

/-- A new variable of one cell. -/
theorem wpList_alloc_one (ty : TypeId) (z : Value) (hz : ∀ w, (zeroValue ty).run P w = .ok z w) (h1 : z.oneCell' = true) (d : Option Tmp)
    (hg : o.guard = none) (ho : o.op = .alloc ty) (hd : o.dst = d)
    (h : ∀ n w', w.heap.size ≤ n → Blk w' n [z] ty → Below n w w' → n < w'.heap.size → wpList P ops Q rest (a.put d (.pointer (some ⟨n, 0, none⟩))) w') : wpList P ops Q (o :: rest) a w := by
  subst hd
  refine wpList_plain hg fun K hK => ?_
  unfold Oper.wp execOp
  have hc : z.cells = [z].toArray := by cases z <;> first | rfl | simp [Value.oneCell'] at h1
  simp only [ho, Instr.alloc, Sem.run_bind, hz, Result.andThen_ok, newVar, newRow, hc, run_newObj, Sem.run_pure]
  exact hK _ _ (h _ _ (Nat.le_refl _) (Blk.new w [z] ty) ((Below.refl _ _).alloc (Nat.le_refl _) _) (by simp))

/-- A value of one cell that is boxed. -/
theorem wpList_box_one (ty : TypeId) (x : Operand) (z : Value) (h1 : z.oneCell' = true) (d : Option Tmp)
    (hg : o.guard = none) (ho : o.op = .box ty x) (hd : o.dst = d) (hx : a.eval x = z)
    (h : ∀ n w', w.heap.size ≤ n → Blk w' n [z] ty → Below n w w' → n < w'.heap.size → wpList P ops Q rest (a.put d (.pointer (some ⟨n, 0, none⟩))) w') : wpList P ops Q (o :: rest) a w := by
  subst hd
  refine wpList_plain hg fun K hK => ?_
  unfold Oper.wp execOp
  have hc : z.cells = [z].toArray := by cases z <;> first | rfl | simp [Value.oneCell'] at h1
  simp only [ho, hx, Instr.box, Sem.run_bind, Result.andThen_ok, newVar, newRow, hc, run_newObj, Sem.run_pure]
  exact hK _ _ (h _ _ (Nat.le_refl _) (Blk.new w [z] ty) ((Below.refl _ _).alloc (Nat.le_refl _) _) (by simp))

/-- A slice literal: a new block, its cells behind their name. -/
theorem wpList_slice_new (t e : TypeId) (len : Nat) (parts : Array (Nat × Operand)) (cells : List Value) (z : Value) (sz byt : Nat) (d : Option Tmp)
    (hu : P.underlying t = some (.slice e)) (hi : (P.info? e).map (fun i => (i.zero, i.size, i.bytes)) = some (some z, sz, byt)) (hsm : len * sz ≤ 16777216) (hpos : 0 < len * sz)
    (hg : o.guard = none) (ho : o.op = .buildSlice t len parts) (hd : o.dst = d)
    (hf : Instr.fill (fun i => some (i * sz, sz)) ((Array.range (len * sz)).map (z.cells[· % z.cells.size]!)) (parts.map fun (i, x) => (i, a.eval x)).toList = some cells.toArray)
    (h : ∀ g w', w.heap.size ≤ g → Blk w' g cells e → Below g w w' → g < w'.heap.size → wpList P ops Q rest (a.put d (.slice (some ⟨g, 0, none⟩) len len)) w') : wpList P ops Q (o :: rest) a w := by
  subst hd
  cases hie : P.info? e with
  | none => simp [hie] at hi
  | some ie =>
    simp only [hie, Option.map_some, Option.some.injEq, Prod.mk.injEq] at hi
    obtain ⟨h1, h2, _⟩ := hi
    subst h2
    exact wpList_buildSlice hg t e len parts ho cells.toArray ie z hu hie h1 (by omega) (by omega) hf (h _ _ (Nat.le_refl _) (Blk.new w cells e) ((Below.refl _ _).alloc (Nat.le_refl _) _) (by simp))

/-- '[]byte(s)'. -/
theorem wpList_bytes_of (src dst e : TypeId) (x : Operand) (s : ByteArray) (d : Option Tmp)
    (hs : P.underlying src = some .string) (hd : P.underlying dst = some (.slice e)) (he : P.underlying e = some (.int .u8))
    (hg : o.guard = none) (ho : o.op = .convert src dst x) (hdst : o.dst = d) (hx : a.eval x = .string s)
    (h : ∀ g cap z w', w.heap.size ≤ g → Row w' g (bytesV s.data.toList ++ z) e → Below g w w' → g < w'.heap.size → s.size + z.length = cap → wpList P ops Q rest (a.put d (.slice (some ⟨g, 0, none⟩) s.size cap)) w') :
    wpList P ops Q (o :: rest) a w := by
  subst hdst
  refine wpList_plain hg fun K hK => ?_
  unfold Oper.wp execOp
  simp only [ho, hx, Sem.run_bind]
  rw [Lib.run_convert_string_bytes w src dst e s hs hd he]
  have hge := grownCap_ge w s.size 0 e
  have hcells : (Lib.bytesCells w e s) = (bytesV s.data.toList ++ List.replicate (grownCap w s.size 0 e - s.size) (Value.int .u8 0)).toArray := by
    apply Array.toList_inj.1
    simp [Lib.bytesCells, bytesV]
  refine hK _ _ (h w.heap.size _ (List.replicate (grownCap w s.size 0 e - s.size) (Value.int .u8 0)) _ (Nat.le_refl _) ?_ ?_ ?_ ?_)
  · refine ⟨((Lib.bytesCells w e s).size, (Lib.bytesCells w e s).size + 1), ?_, ?_⟩
    · rw [Lib.bytesWorld_at_new, hcells]
    · intro i hi
      rw [hcells, List.size_toArray]
      show ¬ (_ ≤ i ∧ i < _)
      omega
  · exact ⟨rfl, rfl, rfl, by rw [Lib.bytesWorld_size]; omega, fun k hk => Lib.bytesWorld_at_old w e s k hk⟩
  · rw [Lib.bytesWorld_size]; omega
  · rw [List.length_replicate]; omega
end
end Go.Proofs.Ytacoibiafpdoaaa
