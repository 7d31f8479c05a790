/- Worlds that part in some blocks alone. No program in sight. -/
import Derived.Test.YtppdboadjefieaaGreatG1
import Derived.Lib.ReflectliteSwap
import Derived.Test.YtppdboadjefieaaGreatG2
namespace Go.Proofs.YtppdboadjefieaaGreat
set_option linter.unusedSimpArgs false
set_option linter.unusedVariables false
open Go Go.RowKit
set_option linter.unusedVariables false

/-- Of the blocks that were there only these may have turned; more may be there. -/
structure Turned (S : List Nat) (w w' : World) : Prop where
  os : w'.os = w.os
  tape : w'.tape = w.tape
  output : w'.output = w.output
  size : w.heap.size ≤ w'.heap.size
  block : ∀ k, k < w.heap.size → k ∉ S → w'.heap[k]? = w.heap[k]?
section
variable {S T : List Nat} {a u v w w' : World}
theorem Turned.refl (S : List Nat) (w : World) : Turned S w w := ⟨rfl, rfl, rfl, Nat.le_refl _, fun _ _ _ => rfl⟩
theorem Turned.trans (h : Turned S u v) (k : Turned S v w) : Turned S u w :=
  ⟨by rw [k.os, h.os], by rw [k.tape, h.tape], by rw [k.output, h.output], Nat.le_trans h.size k.size, fun i hi hs => by rw [k.block i (Nat.lt_of_lt_of_le hi h.size) hs, h.block i hi hs]⟩
theorem Turned.mono (h : Turned S u v) (hs : ∀ x, x ∈ S → x ∈ T) : Turned T u v :=
  ⟨h.os, h.tape, h.output, h.size, fun i hi hn => h.block i hi (fun e => hn (hs i e))⟩
/-- Blocks that were not there yet do not count. -/
theorem Turned.fresh (h : Turned S u v) (hs : ∀ x, x ∈ S → x < u.heap.size → x ∈ T) : Turned T u v :=
  ⟨h.os, h.tape, h.output, h.size, fun i hi hn => h.block i hi (fun e => hn (hs i e hi))⟩
theorem Turned.of_below {B : Nat} (h : Below B u v) (hB : u.heap.size ≤ B) : Turned S u v :=
  ⟨h.os, h.tape, h.output, h.size, fun i hi _ => h.block i (by omega)⟩
theorem Turned.of_kept {b : Nat} (h : Kept b u v) (hb : b ∈ S) : Turned S u v :=
  ⟨h.os, h.tape, h.output, h.size, fun i hi hn => h.block i hi (fun e => hn (e ▸ hb))⟩
theorem Turned.setCell (h : Turned S u v) {b : Nat} (hb : b ∈ S ∨ u.heap.size ≤ b) (i : Nat) (x : Value) : Turned S u (v.setCell ⟨b, i, none⟩ x) :=
  ⟨h.os, h.tape, h.output, by have := h.size; simpa [World.setCell] using this, fun k hk hn => by
    have hne : k ≠ b := by
      intro e
      rcases hb with hb | hb
      · exact hn (e ▸ hb)
      · omega
    rw [Below.heap_setCell _ _ _ _ hne]
    exact h.block k hk hn⟩
theorem Turned.alloc (h : Turned S u v) (o : Obj) : Turned S u (v.alloc o) :=
  ⟨h.os, h.tape, h.output, by have := h.size; simp; omega, fun k hk hn => by rw [Below.heap_alloc _ _ _ (by have := h.size; omega)]; exact h.block k hk hn⟩
theorem Turned.drewN (h : Turned S u v) (n : Nat) : Turned S u (v.drewN n) := ⟨h.os, h.tape, h.output, h.size, h.block⟩
theorem Turned.drew (h : Turned S u v) : Turned S u v.drew := ⟨h.os, h.tape, h.output, h.size, h.block⟩
theorem Turned.below {B : Nat} (h : Turned S u v) (hb : Below B a u) (hS : ∀ x, x ∈ S → B ≤ x) (hB : B ≤ u.heap.size) : Below B a v :=
  hb.trans ⟨h.os, h.tape, h.output, h.size, fun k hk => h.block k (by omega) (fun e => absurd (hS k e) (by omega))⟩
theorem Turned.blk (h : Turned S u v) {b : Nat} {c : List Value} {t : TypeId} (hb : Blk u b c t) (hn : b ∉ S) : Blk v b c t := by
  have hl := hb.lt
  unfold Blk at hb ⊢
  rw [h.block b hl hn, hb]
theorem Turned.cell (h : Turned S u v) {b i : Nat} (hl : b < u.heap.size) (hn : b ∉ S) : v.cell? ⟨b, i, none⟩ = u.cell? ⟨b, i, none⟩ := by
  simp only [World.cell?, h.block b hl hn]
end

section
variable {P : Program} {ops : Array Oper} {rest : List Oper} {o : Oper} {a : Act} {w : World} {Q : Exit → Act → World → Prop}
/-- One cell of a block is stored; the world behind it is a new name. -/
theorem wpList_store_at (ty : TypeId) (x y : Operand) (b i : Nat) (v : Value) (cs : List Value) (t : TypeId) (hb : Blk w b cs t) (hil : i < cs.length) (hi : (P.info? ty).map (·.size) = some 1) (h1 : v.oneCell' = true)
    (hgd : o.guard = none) (ho : o.op = .store ty x y) (hx : a.eval x = .pointer (some ⟨b, i, none⟩)) (hy : a.eval y = v)
    (h : ∀ w', Blk w' b (cs.set i v) t → Only b w w' → wpList P ops Q rest (a.put o.dst undef) w') : wpList P ops Q (o :: rest) a w := by
  cases hie : P.info? ty with
  | none => simp [hie] at hi
  | some ie =>
    have hs : ie.size = 1 := by simpa [hie] using hi
    refine wpList_plain hgd fun K hK => ?_
    unfold Oper.wp execOp
    have hr := Lib.rl_storeVar_one (P := P) ty ie hie hs ⟨b, i, none⟩ v _ h1 w (hb.cell (List.getElem?_eq_getElem hil)) (hb.free i)
    simp only [ho, hx, hy, Instr.storeAt, Instr.sureAddr, Sem.run_bind, Sem.run_pure, Result.andThen_ok, hr]
    exact hK _ _ (h _ (hb.set i v) ((Only.refl b w).setCell i v))
end
section
variable {P : Program} {ops : Array Oper} {rest : List Oper} {o : Oper} {a : Act} {w : World} {Q : Exit → Act → World → Prop}
theorem there_part {b : Nat} {c : List Value} {t : TypeId} (h : Blk w b c t) {off n : Nat} (hn : off + n ≤ c.length) : w.there b off n := fun j hj =>
  ⟨by rw [h.cell?, List.getElem?_eq_getElem (by omega)]; simp, h.free _⟩
/-- Some cells of a block are stored; the world behind it is a new name. -/
theorem wpList_store_part (ty : TypeId) (x y : Operand) (b off : Nat) (vs : List Value) (cs : List Value) (t : TypeId) (hb : Blk w b cs t) (hl : off + vs.length ≤ cs.length)
    (hi : (P.info? ty).map (·.size) = some vs.length) (h1 : ∀ v ∈ vs, v.oneCell' = true)
    (hgd : o.guard = none) (ho : o.op = .store ty x y) (hx : a.eval x = .pointer (some ⟨b, off, none⟩)) (hy : a.eval y = .agg vs.toArray)
    (h : ∀ w', Blk w' b (cs.take off ++ vs ++ cs.drop (off + vs.length)) t → Only b w w' → wpList P ops Q rest (a.put o.dst undef) w') : wpList P ops Q (o :: rest) a w :=
  wpList_store_mid hgd ty x y ho b off vs.toArray hx hy (there_part hb (by simpa using hl)) (by simpa using hi) (all_oneCell_toArray h1) (by simpa using h _ (hb.setCells vs off hl) ((Only.refl b w).setCells vs off))
end
section
variable {P : Program} {ops : Array Oper} {rest : List Oper} {o : Oper} {a : Act} {w : World} {Q : Exit → Act → World → Prop}
/-- 'make([]string, n)'. -/
theorem wpList_make_strs (t e : TypeId) (x y : Operand) (n : Nat) (d : Option Tmp) (L : Int)
    (ht : P.underlying t = some (.slice e)) (hi : (P.info? e).map (fun i => (i.zero, i.size, i.bytes)) = some (some (.string ⟨#[]⟩), 1, 16))
    (hn : n ≤ 1048576) (hL : L = (n : Int))
    (hg : o.guard = none) (ho : o.op = .makeSlice t x y) (hdst : o.dst = d) (hx : a.eval x = .int .i64 L) (hy : a.eval y = .int .i64 L)
    (h : ∀ g w', w.heap.size ≤ g → Blk w' g (List.replicate n (.string ⟨#[]⟩)) e → Below g w w' → g < w'.heap.size → wpList P ops Q rest (a.put d (.slice (some ⟨g, 0, none⟩) n n)) w') :
    wpList P ops Q (o :: rest) a w := by
  subst hdst hL
  refine wpList_plain hg fun K hK => ?_
  cases hq : P.info? e with
  | none => simp [hq] at hi
  | some i =>
    simp only [hq, Option.map_some, Option.some.injEq, Prod.mk.injEq] at hi
    obtain ⟨i1, i2, i3⟩ := hi
    have := run_make (P := P) w t e i _ ht hq i1 .i64 .i64 (n : Int) (n : Int) (by omega) (by omega) (by rw [i3]; omega) (by omega)
    unfold Oper.wp execOp
    simp only [ho, hx, hy, Sem.run_bind, this, Result.andThen_ok, Sem.run_pure]
    rw [i2, Int.toNat_natCast, Nat.mul_one]
    have e1 : (madeCells (Value.cells (.string ⟨#[]⟩)) n) = (List.replicate n (Value.string ⟨#[]⟩)).toArray := by
      have := toList_madeCells_one (.string ⟨#[]⟩) n
      apply Array.toList_inj.1
      rw [show Value.cells (.string ⟨#[]⟩) = #[.string ⟨#[]⟩] from rfl, this]
    rw [e1]
    exact hK _ _ (h _ _ (Nat.le_refl _) (Blk.new w _ e) ((Below.refl _ _).alloc (Nat.le_refl _) _) (by simp))
end
/-- A row of texts that lies in none of these blocks. -/
def PathIn (S : List Nat) (w : World) (v : Value) (xs : List ByteArray) : Prop :=
  (xs = [] ∧ ∃ (p : Option Addr) (c : Nat), v = .slice p 0 c) ∨
  ∃ g o c, v = .slice (some ⟨g, o, none⟩) xs.length c ∧ g < w.heap.size ∧ g ∉ S ∧ ∀ (j : Nat) (x : ByteArray), xs[j]? = some x → w.cell? ⟨g, o + j, none⟩ = some (.string x)
theorem PathIn.turned {S : List Nat} {w w' : World} {v : Value} {xs : List ByteArray} (h : PathIn S w v xs) (ht : Turned S w w') : PathIn S w' v xs := by
  rcases h with h1 | ⟨g, o, c, h1, h2, h3, h4⟩
  · exact .inl h1
  · exact .inr ⟨g, o, c, h1, Nat.lt_of_lt_of_le h2 ht.size, h3, fun j x hx => by rw [ht.cell h2 h3]; exact h4 j x hx⟩
theorem PathIn.nil (S : List Nat) (w : World) : PathIn S w (.slice none 0 0) [] := .inl ⟨rfl, _, _, rfl⟩
theorem PathIn.shape {S : List Nat} {w : World} {v : Value} {xs : List ByteArray} (h : PathIn S w v xs) : ∃ (p : Option Addr) (c : Nat), v = .slice p xs.length c := by
  rcases h with ⟨h1, p, c, h2⟩ | ⟨g, o, c, h1, _⟩
  · subst h1; exact ⟨p, c, h2⟩
  · exact ⟨_, _, h1⟩
theorem PathIn.sub {S T : List Nat} {w : World} {v : Value} {xs : List ByteArray} (h : PathIn S w v xs) (hs : ∀ x, x ∈ T → x ∈ S) : PathIn T w v xs :=
  h.imp id fun ⟨g, o, c, h1, h2, h3, h4⟩ => ⟨g, o, c, h1, h2, fun hm => h3 (hs g hm), h4⟩
/-- A row of texts, wherever it lies. -/
def PRow (w : World) (v : Value) (xs : List ByteArray) : Prop := PathIn [] w v xs
theorem PRow.below {w w' : World} {v : Value} {xs : List ByteArray} (h : PRow w v xs) {B : Nat} (hb : Below B w w') (hB : w.heap.size ≤ B) : PRow w' v xs :=
  PathIn.turned h (Turned.of_below hb hB)
theorem PRow.shape {w : World} {v : Value} {xs : List ByteArray} (h : PRow w v xs) : ∃ (p : Option Addr) (c : Nat), v = .slice p xs.length c := PathIn.shape h
theorem Only.turned {b : Nat} {S : List Nat} {w w' : World} (h : Only b w w') (hb : b ∈ S) : Turned S w w' :=
  ⟨h.os, h.tape, h.output, Nat.le_of_eq h.size.symm, fun k _ hn => h.block k (fun e => hn (e ▸ hb))⟩
end Go.Proofs.YtppdboadjefieaaGreat
