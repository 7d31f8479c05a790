/- Slices of bytes that the call itself makes; bytes as a string. No program in sight. -/
import Derived.Test.YtacoibiafpdoaaaMem
namespace Go.Proofs.Ytacoibiafpdoaaa
open Go Go.RowKit

/-- A text as a value. -/
def str (l : List UInt8) : Value := .string ⟨l.toArray⟩
/-- A string's bytes. -/
def Txt (r : ByteArray) (l : List UInt8) : Prop := r.data.toList = l
theorem Txt.size {r : ByteArray} {l : List UInt8} (h : Txt r l) : r.size = l.length := by
  unfold Txt at h; rw [← h]; rfl
theorem Txt.self (r : ByteArray) : Txt r r.data.toList := rfl
theorem Txt.mk (l : List UInt8) : Txt ⟨l.toArray⟩ l := rfl
theorem Txt.eq {r r' : ByteArray} {l : List UInt8} (h : Txt r l) (h' : Txt r' l) : r = r' := by
  unfold Txt at h h'
  cases r with | mk a => cases r' with | mk b =>
  congr 1
  exact Array.toList_inj.1 (h.trans h'.symm)
theorem Txt.of {r : ByteArray} {l : List UInt8} (h : Txt r l) : r = ⟨l.toArray⟩ := h.eq (Txt.mk l)
theorem Txt.append {r r' : ByteArray} {l l' : List UInt8} (h : Txt r l) (h' : Txt r' l') : Txt (r ++ r') (l ++ l') := by
  unfold Txt at h h' ⊢
  rw [← h, ← h']
  simp
theorem Txt.extract {r : ByteArray} {l : List UInt8} (h : Txt r l) (a b : Nat) : Txt (r.extract a b) ((l.take b).drop a) := by
  unfold Txt at h ⊢
  rw [← h, ByteArray.data_extract, Array.toList_extract]
  simp [List.extract, List.drop_take]
theorem Txt.cast {r : ByteArray} {l l' : List UInt8} (h : Txt r l) (e : l = l') : Txt r l' := e ▸ h
theorem Txt.inj {r : ByteArray} {l l' : List UInt8} (h : Txt r l) (h' : Txt r l') : l = l' := h.symm.trans h'
theorem Txt.beq {r r' : ByteArray} {l l' : List UInt8} (h : Txt r l) (h' : Txt r' l') : r = r' ↔ l = l' :=
  ⟨fun e => by subst e; exact h.inj h', fun e => by subst e; exact h.eq h'⟩

/-- Bytes as cells. -/
def bytesV (l : List UInt8) : List Value := l.map fun b => .int .u8 ((b.toNat : Nat) : Int)

theorem bytesV_length (l : List UInt8) : (bytesV l).length = l.length := by simp [bytesV]
theorem bytesV_at (l : List UInt8) (i : Nat) (hi : i < l.length) : (bytesV l)[i]? = some (.int .u8 ((l[i].toNat : Nat) : Int)) := by simp [bytesV, hi]
theorem bytesV_set (l : List UInt8) (i : Nat) (b : UInt8) : (bytesV l).set i (.int .u8 ((b.toNat : Nat) : Int)) = bytesV (l.set i b) := by simp [bytesV, List.map_set]
theorem bytesV_append (a b : List UInt8) : bytesV (a ++ b) = bytesV a ++ bytesV b := by simp [bytesV]
theorem bytesV_one (l : List UInt8) : ∀ v ∈ bytesV l, v.oneCell' = true := by
  intro v hv
  obtain ⟨_, _, rfl⟩ := List.mem_map.1 hv
  rfl

theorem foldl_push (l : List UInt8) (s : ByteArray) : (l.map fun b => ((b.toNat : Nat) : Int)).foldl (fun r n => r.push (UInt8.ofNat n.toNat)) s = ⟨s.data ++ l.toArray⟩ := by
  induction l generalizing s with
  | nil => simp
  | cons b r ih =>
    rw [List.map_cons, List.foldl_cons, ih]
    simp [ByteArray.push]

theorem run_bytes_string {P : Program} (w : World) (a : Addr) (l : List UInt8) (len cap : Nat) (hl : len = l.length)
    (h : ∀ j v, (bytesV l)[j]? = some v → w.cell? (a.add j) = some v) :
    (Conv.bytesToString (.slice (some a) len cap)).run P w = .ok (str l) w := by
  subst hl
  have := run_loadCells_list (P := P) w a (bytesV l) h
  rw [bytesV_length] at this
  have h2 := run_bytesToString (P := P) w a l.length cap (l.map fun b => ((b.toNat : Nat) : Int)) (by rw [this]; congr 2; simp [bytesV, Function.comp_def])
  rw [h2, foldl_push]
  simp [str, ByteArray.empty, ByteArray.emptyWithCapacity]
  rfl

section
variable {P : Program} {ops : Array Oper} {rest : List Oper} {o : Oper} {a : Act} {w : World} {Q : Exit → Act → World → Prop}

/-- 'string(b)', b a row of bytes. -/
theorem wpList_string_bytes (src dst e : TypeId) (x : Operand) (l : List UInt8) (b off len cap : Nat) (d : Option Tmp)
    (hs : P.underlying src = some (.slice e)) (he : P.underlying e = some (.int .u8)) (hd : P.underlying dst = some .string)
    (hr : w.rangeAt b off (bytesV l)) (hl : len = l.length)
    (hg : o.guard = none) (ho : o.op = .convert src dst x) (hdst : o.dst = d) (hx : a.eval x = .slice (some ⟨b, off, none⟩) len cap)
    (h : wpList P ops Q rest (a.put d (str l)) w) : wpList P ops Q (o :: rest) a w := by
  subst hdst
  refine wpList_plain hg fun K hK => ?_
  unfold Oper.wp execOp
  simp only [ho, hx, Sem.run_bind]
  rw [run_convert_bytes_string w src dst e _ _ _ hs he hd, run_bytes_string w _ l len cap hl (fun j v hv => by rw [Addr.add_mid]; exact hr j v hv)]
  exact hK _ _ h

/-- 'string(b)', b nil. -/
theorem wpList_string_nil (src dst e : TypeId) (x : Operand) (d : Option Tmp)
    (hs : P.underlying src = some (.slice e)) (he : P.underlying e = some (.int .u8)) (hd : P.underlying dst = some .string)
    (hg : o.guard = none) (ho : o.op = .convert src dst x) (hdst : o.dst = d) (hx : a.eval x = .slice none 0 0)
    (h : wpList P ops Q rest (a.put d (str [])) w) : wpList P ops Q (o :: rest) a w := by
  subst hdst
  refine wpList_plain hg fun K hK => ?_
  unfold Oper.wp execOp
  simp only [ho, hx, Sem.run_bind]
  rw [run_convert_bytes_string w src dst e _ _ _ hs he hd]
  exact hK _ _ h

/-- 'make([]byte, n)'. -/
theorem wpList_make_bytes (t e : TypeId) (x y : Operand) (n : Nat) (d : Option Tmp) (L : Int)
    (ht : P.underlying t = some (.slice e)) (hi : (P.info? e).map (fun i => (i.zero, i.size, i.bytes)) = some (some (.int .u8 0), 1, 1))
    (hn : n ≤ 281474976710656) (hL : L = (n : Int))
    (hg : o.guard = none) (ho : o.op = .makeSlice t x y) (hdst : o.dst = d) (hx : a.eval x = .int .i64 L) (hy : a.eval y = .int .i64 L)
    (h : ∀ g w', w.heap.size ≤ g → Blk w' g (bytesV (List.replicate n 0)) e → Below g w w' → g < w'.heap.size → wpList P ops Q rest (a.put d (.slice (some ⟨g, 0, none⟩) n n)) w') :
    wpList P ops Q (o :: rest) a w := by
  subst hdst hL
  refine wpList_plain hg fun K hK => ?_
  cases hq : P.info? e with
  | none => simp [hq] at hi
  | some i =>
    simp only [hq, Option.map_some, Option.some.injEq, Prod.mk.injEq] at hi
    obtain ⟨i1, i2, i3⟩ := hi
    have := run_make (P := P) w t e i _ ht hq i1 .i64 .i64 (n : Int) (n : Int) (by omega) (by omega) (by rw [i3]; omega) (by omega)
    unfold Oper.wp execOp
    simp only [ho, hx, hy, Sem.run_bind, this, Result.andThen_ok, Sem.run_pure]
    rw [i2, Int.toNat_natCast, Nat.mul_one]
    have e1 : (madeCells (Value.cells (.int .u8 0)) n) = (bytesV (List.replicate n 0)).toArray := by
      have := toList_madeCells_one (.int .u8 0) n
      apply Array.toList_inj.1
      rw [show Value.cells (.int .u8 0) = #[.int .u8 0] from rfl, this]
      simp [bytesV]
    rw [e1]
    exact hK _ _ (h _ _ (Nat.le_refl _) (Blk.new w _ e) ((Below.refl _ _).alloc (Nat.le_refl _) _) (by simp))
end
end Go.Proofs.Ytacoibiafpdoaaa
