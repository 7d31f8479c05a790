/- A Builder of the call's own, by the bytes that it holds. -/
import Derived.Test.YtacoibiafpdoaaaShelf2
import Derived.Test.YtacoibiafpdoaaaRow
import Derived.Lib.Hide
namespace Go.Proofs.Ytacoibiafpdoaaa
open Go Go.RowKit
set_option linter.unusedVariables false

/-- Block b is a Builder that holds these bytes; what it owns lies from b on. -/
def Bld (w : World) (b : Nat) (l : List UInt8) : Prop := Lib.IsBuilder 110 5 b b (Lib.byteCells l) w

theorem zeroBuilder (w : World) : Sem.run Try.prog (zeroValue 110) w = .ok (.agg ([.pointer none, .slice none 0 0] : List Value).toArray) w := by kernel_rfl

theorem Bld.new {w : World} {b : Nat} (h : Blk w b [.pointer none, .slice none 0 0] 110) : Bld w b [] :=
  .inl ⟨Nat.le_refl _, .slice none 0 0, h, World.ownsRow_nil _ _ _ _, by simp [Value.ownBlock]⟩

theorem builderAt_below {T e : TypeId} {B b : Nat} {p : Value} {bs : List Value} {w w' : World} (h : Lib.BuilderAt T e B b p bs w) (hb : Below w.heap.size w w') : Lib.BuilderAt T e B b p bs w' := by
  have hlt := h.lt
  obtain ⟨hB, v, hv, hown, hne⟩ := h
  refine ⟨hB, v, by rw [hb.block b hlt, hv], ?_, hne⟩
  refine ⟨hown.1, ?_⟩
  rcases hown.2 with hn | ⟨g, cap, cur, rfl, hg, hgg, rest⟩
  · exact .inl hn
  · refine .inr ⟨g, cap, cur, rfl, hg, ?_, rest⟩
    rw [hb.block g (Array.getElem?_eq_some_iff.1 hgg).1]
    exact hgg
theorem Bld.below {w w' : World} {b : Nat} {l : List UInt8} (h : Bld w b l) (hb : Below w.heap.size w w') : Bld w' b l :=
  h.imp (fun h => builderAt_below h hb) (fun h => builderAt_below h hb)
theorem Bld.lt {w : World} {b : Nat} {l : List UInt8} (h : Bld w b l) : b < w.heap.size := by
  rcases h with h | h <;> exact h.lt

theorem byteCells_append (a b : List UInt8) : Lib.byteCells (a ++ b) = Lib.byteCells a ++ Lib.byteCells b := by simp [Lib.byteCells]

theorem bld_writeString (b : Nat) (l : List UInt8) (s : ByteArray) (w : World) (h : Bld w b l) (hl : l.length + s.size ≤ 140737488355328) :
    Calls Try.prog 107 #[.pointer (some ⟨b, 0, none⟩), .string s] w fun e w' => e = .returned (.tuple #[.int .i64 s.size, .nilIface]) ∧ Bld w' b (l ++ s.data.toList) ∧ Below b w w' := by
  refine (writeString b b _ s w h (by rw [Lib.byteCells_length]; exact hl) (Nat.le_of_lt h.lt)).mono ?_
  rintro e w' ⟨rfl, hb, hbel⟩
  refine ⟨rfl, .inr ?_, hbel⟩
  rw [byteCells_append]
  exact hb

theorem bld_writeByte (b : Nat) (l : List UInt8) (c : Int) (w : World) (h : Bld w b l) (h0 : 0 ≤ c) (h1 : c < 256) (hl : l.length + 1 ≤ 140737488355328) :
    Calls Try.prog 89 #[.pointer (some ⟨b, 0, none⟩), .int .u8 c] w fun e w' => e = .returned .nilIface ∧ Bld w' b (l ++ [UInt8.ofNat c.toNat]) ∧ Below b w w' := by
  refine (writeByte b b _ c w h (by rw [Lib.byteCells_length]; exact hl) (Nat.le_of_lt h.lt)).mono ?_
  rintro e w' ⟨rfl, hb, hbel⟩
  refine ⟨rfl, .inr ?_, hbel⟩
  have e : Lib.byteCells (l ++ [UInt8.ofNat c.toNat]) = Lib.byteCells l ++ [.int .u8 c] := by
    rw [byteCells_append]
    congr 1
    simp [Lib.byteCells]
    omega
  rw [e]
  exact hb

theorem bld_string (b : Nat) (l : List UInt8) (w : World) (h : Bld w b l) :
    Calls Try.prog 90 #[.pointer (some ⟨b, 0, none⟩)] w fun e w' => ∃ r, e = .returned (.string r) ∧ Txt r l ∧ Below b w w' := by
  refine (Try.Builder_String_any b b l w h (Nat.le_of_lt h.lt)).mono ?_
  rintro e w' ⟨rfl, hb⟩
  exact ⟨_, rfl, Txt.mk _, hb⟩
end Go.Proofs.Ytacoibiafpdoaaa
