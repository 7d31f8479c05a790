/- Blocks of memory known whole, and what stores, new blocks and draws do to them. No program in sight. -/
import Derived.WalkKit
import Derived.ProofKit
import Derived.Deep.MidRow
import Derived.Deep.Draws
import Derived.StillTailTactics
namespace Go.Proofs.Ytacoibiafpdoaaa
open Go Go.RowKit

/-- Block b holds just these cells, of type t, and nothing of it is frozen. -/
def Blk (w : World) (b : Nat) (c : List Value) (t : TypeId) : Prop := w.heap[b]? = some (.cells c.toArray t (0, 0))

section
variable {w : World} {b : Nat} {c : List Value} {t : TypeId}

theorem Blk.lt (h : Blk w b c t) : b < w.heap.size := by
  unfold Blk at h
  exact (Array.getElem?_eq_some_iff.1 h).1
theorem Blk.cell? (h : Blk w b c t) (i : Nat) : w.cell? ⟨b, i, none⟩ = c[i]? := by
  unfold Blk at h
  simp [World.cell?, h]
theorem Blk.cell (h : Blk w b c t) {i : Nat} {v : Value} (hi : c[i]? = some v) : w.cell? ⟨b, i, none⟩ = some v := by rw [h.cell?, hi]
theorem Blk.free (h : Blk w b c t) (i : Nat) : w.frozen? ⟨b, i, none⟩ = false := by
  unfold Blk at h
  simp [World.frozen?, h]
theorem Blk.set (h : Blk w b c t) (i : Nat) (v : Value) : Blk (w.setCell ⟨b, i, none⟩ v) b (c.set i v) t := by
  unfold Blk at h ⊢
  simp only [World.setCell, Array.getElem?_modify, h]
  simp
theorem Blk.set_other (h : Blk w b c t) {a : Addr} (ha : b ≠ a.block) (v : Value) : Blk (w.setCell a v) b c t := by
  unfold Blk at h ⊢
  rw [Below.heap_setCell _ _ _ _ ha, h]
theorem Blk.alloc (h : Blk w b c t) (o : Obj) : Blk (w.alloc o) b c t := by
  have := h.lt
  unfold Blk at h ⊢
  rw [Below.heap_alloc _ _ _ this, h]
theorem Blk.new (w : World) (c : List Value) (t : TypeId) : Blk (w.alloc (.cells c.toArray t)) w.heap.size c t := by
  unfold Blk
  show (w.heap.push _)[w.heap.size]? = _
  simp
theorem Blk.drewN (h : Blk w b c t) (n : Nat) : Blk (w.drewN n) b c t := by
  unfold Blk at h ⊢
  exact h
theorem Blk.drew (h : Blk w b c t) : Blk w.drew b c t := h
theorem Blk.below (h : Blk w b c t) {B : Nat} {w' : World} (hb : Below B w w') (hB : b < B) : Blk w' b c t := by
  unfold Blk at h ⊢
  rw [hb.block b hB, h]
theorem Blk.ext (h : Blk w b c t) {c' : List Value} (e : c = c') : Blk w b c' t := e ▸ h
theorem Blk.range (h : Blk w b c t) : w.rangeAt b 0 c := by
  intro j v hv
  rw [Nat.zero_add]
  exact h.cell hv
end

theorem still_of {P : Program} {f : FuncId} {args : Array Value} {w : World} {v : Value} (h : Calls P f args w fun e w' => e = .returned v ∧ w = w') :
    Calls P f args w fun e w'' => e = .returned v ∧ w'' = w := h.mono fun _ _ ⟨a, b⟩ => ⟨a, b.symm⟩

/-- The cells of a range in place of those of a block. -/
theorem World.there_of {w : World} {b : Nat} {c : List Value} {t : TypeId} (h : Blk w b c t) {n : Nat} (hn : n = c.length) : w.there b 0 n := by
  intro j hj
  subst hn
  rw [Nat.zero_add]
  exact ⟨by rw [h.cell?]; simp [hj], h.free j⟩

theorem Blk.setCells {b : Nat} {t : TypeId} (vs : List Value) : ∀ {w : World} {c : List Value} (o : Nat), Blk w b c t → o + vs.length ≤ c.length →
    Blk (w.setCells b o vs) b (c.take o ++ vs ++ c.drop (o + vs.length)) t := by
  induction vs with
  | nil => intro w c o h _; simpa [World.setCells] using h
  | cons v r ih =>
    intro w c o h hl
    simp only [List.length_cons] at hl
    have := ih (o + 1) (h.set o v) (by simp; omega)
    refine Blk.ext this ?_
    have e1 : (c.set o v).take (o + 1) = c.take o ++ [v] := by
      rw [List.take_set, List.take_succ_eq_append_getElem (by omega), List.set_append_right _ _ (by simp; omega)]
      simp [Nat.min_eq_left (by omega : o ≤ c.length)]
    rw [e1, List.drop_set_of_lt (by omega)]
    simp [Nat.add_assoc, Nat.add_comm 1]

theorem Blk.setAll {w : World} {b : Nat} {c : List Value} {t : TypeId} (h : Blk w b c t) (vs : List Value) (hl : vs.length = c.length) : Blk (w.setCells b 0 vs) b vs t := by
  have := h.setCells vs 0 (by omega)
  refine this.ext ?_
  simp [hl]

theorem Blk.setCells_other {b : Nat} {t : TypeId} {c : List Value} {g : Nat} (hg : b ≠ g) (vs : List Value) : ∀ {w : World} (o : Nat), Blk w b c t → Blk (w.setCells g o vs) b c t := by
  induction vs with
  | nil => intro w o h; exact h
  | cons v r ih => intro w o h; exact ih (o + 1) (h.set_other hg v)

theorem Below.setCells {B : Nat} {a : World} {b : Nat} (hb : B ≤ b) (vs : List Value) : ∀ {w : World} (o : Nat), Below B a w → Below B a (w.setCells b o vs) := by
  induction vs with
  | nil => intro w o h; exact h
  | cons v r ih => intro w o h; exact ih (o + 1) (h.setCell hb v)

/-- A region that only reads, in the text's own order; the world behind it as a draw. -/
theorem wp_region_still_drew {P : Program} {id : Nat} {Q : Exit → Act → World → Prop} {a : Act} {w : World} {l : List Oper} (hm : P.follows .mixedOrders = true) (hB : Region.lexB .any l.toArray = true)
    (h : wpStill P l.toArray w.drew (fun a' => Q .normal a' w.drew) l a) : (Code.region id l.toArray true).wp P Q a w := wp_region_still_lit hm hB h
theorem wp_region_still_tail_drew {P : Program} {id : Nat} {Q : Exit → Act → World → Prop} {a : Act} {w : World} {l : List Oper} (n : Nat) (hm : P.follows .mixedOrders = true) (hB : Region.lexTailB .any l.toArray n = true)
    (h : wpStill P l.toArray w.drew (fun a' => wpList P l.toArray Q (l.drop n) a' w.drew) (l.take n) a) : (Code.region id l.toArray true).wp P Q a w := wp_region_still_tail n hm hB h

/-- A whole block of a row or a struct is loaded. -/
theorem wpList_load_blk {P : Program} {ops : Array Oper} {rest : List Oper} {o : Oper} {a : Act} {w : World} {Q : Exit → Act → World → Prop}
    (ty : TypeId) (x : Operand) (b : Nat) (cs : List Value) (t : TypeId) (d : TypeDesc) (hb : Blk w b cs t)
    (hu : P.underlying ty = some d) (hd : d.isRow = true) (hi : (P.info? ty).map (·.size) = some cs.length)
    (hgd : o.guard = none) (ho : o.op = .load ty x) (hx : a.eval x = .pointer (some ⟨b, 0, none⟩))
    (h : wpList P ops Q rest (a.put o.dst (.agg cs.toArray)) w) : wpList P ops Q (o :: rest) a w :=
  wpList_load_mid hgd ty x ho b 0 hx cs d hb.range hu hd hi h

/-- A whole block of a row or a struct is stored. -/
theorem wpList_store_blk {P : Program} {ops : Array Oper} {rest : List Oper} {o : Oper} {a : Act} {w : World} {Q : Exit → Act → World → Prop}
    (ty : TypeId) (x y : Operand) (b : Nat) (old cs : List Value) (t : TypeId) (hb : Blk w b old t) (hl : cs.length = old.length)
    (hi : (P.info? ty).map (·.size) = some cs.length) (h1 : ∀ v ∈ cs, v.oneCell' = true)
    (hgd : o.guard = none) (ho : o.op = .store ty x y) (hx : a.eval x = .pointer (some ⟨b, 0, none⟩)) (hy : a.eval y = .agg cs.toArray)
    (h : wpList P ops Q rest (a.put o.dst undef) (w.setCells b 0 cs)) : wpList P ops Q (o :: rest) a w :=
  wpList_store_mid hgd ty x y ho b 0 cs.toArray hx hy (World.there_of hb (by simpa using hl)) (by simpa using hi) (all_oneCell_toArray h1) (by simpa using h)

/-- A row or a struct built of its parts. -/
theorem wpList_build_eq {P : Program} {ops : Array Oper} {rest : List Oper} {o : Oper} {a : Act} {w : World} {Q : Exit → Act → World → Prop}
    (t : TypeId) (parts : Array (Nat × Operand)) (cells : List Value) (hg : o.guard = none) (ho : o.op = .build t parts)
    (hf : P.built t (parts.map fun (i, x) => (i, a.eval x)).toList = some cells.toArray)
    (h : wpList P ops Q rest (a.put o.dst (.agg cells.toArray)) w) : wpList P ops Q (o :: rest) a w :=
  wpList_build hg t parts ho (by rw [hf]; rfl) (by rw [hf]; exact h)

/-- Only block b has turned. -/
structure Only (b : Nat) (w w' : World) : Prop where
  os : w'.os = w.os
  tape : w'.tape = w.tape
  output : w'.output = w.output
  size : w'.heap.size = w.heap.size
  block : ∀ k, k ≠ b → w'.heap[k]? = w.heap[k]?

theorem Only.blk {b : Nat} {w w' : World} (h : Only b w w') {b' : Nat} {c : List Value} {t : TypeId} (hb : Blk w b' c t) (hne : b' ≠ b) : Blk w' b' c t := by
  unfold Blk at hb ⊢
  rw [h.block b' hne, hb]
theorem Only.below {b B : Nat} {a w w' : World} (h : Only b w w') (hb : Below B a w) (hB : B ≤ b) : Below B a w' :=
  hb.trans ⟨h.os, h.tape, h.output, by rw [h.size]; exact Nat.le_refl _, fun k hk => h.block k (by omega)⟩
theorem Only.refl (b : Nat) (w : World) : Only b w w := ⟨rfl, rfl, rfl, rfl, fun _ _ => rfl⟩
theorem Only.setCell {b : Nat} {w w' : World} (h : Only b w w') (i : Nat) (v : Value) : Only b w (w'.setCell ⟨b, i, none⟩ v) :=
  ⟨h.os, h.tape, h.output, by simp [World.setCell, h.size], fun k hk => by rw [Below.heap_setCell _ _ _ _ hk, h.block k hk]⟩
theorem Only.setCells {b : Nat} (vs : List Value) : ∀ {w w' : World} (o : Nat), Only b w w' → Only b w (w'.setCells b o vs) := by
  induction vs with
  | nil => intro w w' o h; exact h
  | cons v r ih => intro w w' o h; exact ih (o + 1) (h.setCell o v)

/-- Of what was there only block b may have turned; there may be new blocks. -/
structure Kept (b : Nat) (w w' : World) : Prop where
  os : w'.os = w.os
  tape : w'.tape = w.tape
  output : w'.output = w.output
  size : w.heap.size ≤ w'.heap.size
  block : ∀ k, k < w.heap.size → k ≠ b → w'.heap[k]? = w.heap[k]?

theorem Kept.refl (b : Nat) (w : World) : Kept b w w := ⟨rfl, rfl, rfl, Nat.le_refl _, fun _ _ _ => rfl⟩
theorem Kept.trans {b : Nat} {u v w : World} (h : Kept b u v) (k : Kept b v w) : Kept b u w :=
  ⟨k.os.trans h.os, k.tape.trans h.tape, k.output.trans h.output, Nat.le_trans h.size k.size, fun i hi hne => (k.block i (Nat.lt_of_lt_of_le hi h.size) hne).trans (h.block i hi hne)⟩
theorem Kept.blk {b : Nat} {w w' : World} (h : Kept b w w') {b' : Nat} {c : List Value} {t : TypeId} (hb : Blk w b' c t) (hne : b' ≠ b) : Blk w' b' c t := by
  have := hb.lt
  unfold Blk at hb ⊢
  rw [h.block b' this hne, hb]
theorem Kept.below {b B : Nat} {a w w' : World} (h : Kept b w w') (hb : Below B a w) (hB : B ≤ b) (hs : B ≤ w.heap.size) : Below B a w' :=
  hb.trans ⟨h.os, h.tape, h.output, h.size, fun k hk => h.block k (by omega) (by omega)⟩
theorem Kept.only {b : Nat} {u w w' : World} (h : Kept b u w) (o : Only b w w') : Kept b u w' :=
  ⟨o.os.trans h.os, o.tape.trans h.tape, o.output.trans h.output, by rw [o.size]; exact h.size, fun i hi hne => (o.block i hne).trans (h.block i hi hne)⟩
theorem Kept.below' {b B : Nat} {u w w' : World} (h : Kept b u w) (k : Below B w w') (hB : w.heap.size ≤ B) : Kept b u w' :=
  ⟨k.os.trans h.os, k.tape.trans h.tape, k.output.trans h.output, Nat.le_trans h.size k.size, fun i hi hne => (k.block i (by have := h.size; omega)).trans (h.block i hi hne)⟩
theorem Kept.setCell {b : Nat} {u w : World} (h : Kept b u w) (i : Nat) (v : Value) : Kept b u (w.setCell ⟨b, i, none⟩ v) := h.only ((Only.refl b w).setCell i v)
theorem Kept.drewN {b : Nat} {u w : World} (h : Kept b u w) (n : Nat) : Kept b u (w.drewN n) := ⟨h.os, h.tape, h.output, h.size, h.block⟩
theorem Kept.drew {b : Nat} {u w : World} (h : Kept b u w) : Kept b u w.drew := ⟨h.os, h.tape, h.output, h.size, h.block⟩

section
variable {P : Program} {ops : Array Oper} {rest : List Oper} {o : Oper} {a : Act} {w : World} {Q : Exit → Act → World → Prop}

/-- A new variable of a row or a struct, laid at its zero value: the cells stay behind their name. -/
theorem wpList_alloc_new (ty : TypeId) (z : List Value) (hz : ∀ w, (zeroValue ty).run P w = .ok (.agg z.toArray) w) (d : Option Tmp)
    (hg : o.guard = none) (ho : o.op = .alloc ty) (hd : o.dst = d)
    (h : ∀ n w', w.heap.size ≤ n → Blk w' n z ty → Below n w w' → n < w'.heap.size → wpList P ops Q rest (a.put d (.pointer (some ⟨n, 0, none⟩))) w') : wpList P ops Q (o :: rest) a w := by
  subst hd
  refine wpList_plain hg fun K hK => ?_
  unfold Oper.wp execOp
  simp only [ho, Instr.alloc, Sem.run_bind, hz, Result.andThen_ok, newVar, newRow, Value.cells, run_newObj, Sem.run_pure]
  exact hK _ _ (h _ _ (Nat.le_refl _) (Blk.new w z ty) ((Below.refl _ _).alloc (Nat.le_refl _) _) (by simp))

/-- An element of an array by value, each of one cell. -/
theorem wpList_index_arr (ty e : TypeId) (x y : Operand) (cs : List Value) (n k : Nat) (v : Value) (d : Option Tmp)
    (hu : P.underlying ty = some (.array n e)) (ha : ∀ w, (isAgg e).run P w = .ok false w) (hz : ∀ w, (sizeOf e).run P w = .ok 1 w)
    (hk : k < n) (hv : cs[k]? = some v)
    (hg : o.guard = none) (ho : o.op = .index ty x y) (hd : o.dst = d) (hx : a.eval x = .agg cs.toArray) (hy : a.eval y = .int .i64 (k : Int))
    (h : wpList P ops Q rest (a.put d v) w) : wpList P ops Q (o :: rest) a w := by
  subst hd
  refine wpList_plain hg fun K hK => ?_
  unfold Oper.wp execOp
  have hv' : cs.toArray[k]? = some v := by simpa using hv
  have h2 : (0 : Int) ≤ (k : Int) ∧ (k : Int) < (n : Int) := ⟨by omega, by omega⟩
  simp only [ho, hx, hy, Instr.index, asIntOf, Sem.run_bind, Sem.run_pure, Result.andThen_ok, run_underlying hu, if_pos h2, hz, part, ha, Int.toNat_natCast, Nat.mul_one, hv']
  exact hK _ _ h

/-- A row or a struct that is boxed (a parameter that is addressed). -/
theorem wpList_box_new (ty : TypeId) (x : Operand) (z : List Value) (d : Option Tmp)
    (hg : o.guard = none) (ho : o.op = .box ty x) (hd : o.dst = d) (hx : a.eval x = .agg z.toArray)
    (h : ∀ n w', w.heap.size ≤ n → Blk w' n z ty → Below n w w' → n < w'.heap.size → wpList P ops Q rest (a.put d (.pointer (some ⟨n, 0, none⟩))) w') : wpList P ops Q (o :: rest) a w := by
  subst hd
  refine wpList_plain hg fun K hK => ?_
  unfold Oper.wp execOp
  simp only [ho, hx, Instr.box, Sem.run_bind, Result.andThen_ok, newVar, newRow, Value.cells, run_newObj, Sem.run_pure]
  exact hK _ _ (h _ _ (Nat.le_refl _) (Blk.new w z ty) ((Below.refl _ _).alloc (Nat.le_refl _) _) (by simp))

/-- A whole block of a row or a struct is stored; the world behind it is a new name. -/
theorem wpList_store_new (ty : TypeId) (x y : Operand) (b : Nat) (old cs : List Value) (t : TypeId) (hb : Blk w b old t) (hl : cs.length = old.length)
    (hi : (P.info? ty).map (·.size) = some cs.length) (h1 : ∀ v ∈ cs, v.oneCell' = true)
    (hgd : o.guard = none) (ho : o.op = .store ty x y) (hx : a.eval x = .pointer (some ⟨b, 0, none⟩)) (hy : a.eval y = .agg cs.toArray)
    (h : ∀ w', Blk w' b cs t → Only b w w' → wpList P ops Q rest (a.put o.dst undef) w') : wpList P ops Q (o :: rest) a w :=
  wpList_store_blk ty x y b old cs t hb hl hi h1 hgd ho hx hy (h _ (hb.setAll cs hl) ((Only.refl b w).setCells cs 0))
end

theorem Blk.rangeMid {w : World} {b : Nat} {x y z : List Value} {t : TypeId} (h : Blk w b (x ++ y ++ z) t) {off : Nat} (ho : off = x.length) : w.rangeAt b off y := by
  intro j v hv
  subst ho
  refine h.cell ?_
  have hj := (List.getElem?_eq_some_iff.1 hv).1
  rw [List.append_assoc, List.getElem?_append_right (by omega), Nat.add_sub_cancel_left, List.getElem?_append_left hj, hv]

theorem Below.drewN {B : Nat} {a w : World} (h : Below B a w) (n : Nat) : Below B a (w.drewN n) := ⟨h.os, h.tape, h.output, h.size, h.block⟩

end Go.Proofs.Ytacoibiafpdoaaa
