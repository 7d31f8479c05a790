/- How a function ends that tells a text or an errno. -/
import Derived.Test.YtacoibiafpdoaaaBytes
namespace Go.Proofs.Ytacoibiafpdoaaa
open Go

/-- Two worlds, each behind the other one. -/
theorem bt {a b c : World} (h : RowKit.Below a.heap.size a b) (k : RowKit.Below b.heap.size b c) : RowKit.Below a.heap.size a c := h.trans (k.mono h.size)

/-- A text, or the errno and no text. -/
def Ends (ok : Prop) (l : List UInt8) (c : Int) (e : Ending) : Prop :=
  (ok ∧ ∃ r, e = .returned (.tuple #[.string r, .int .i64 0]) ∧ Txt r l) ∨ (¬ ok ∧ e = .returned (.tuple #[.string ⟨#[]⟩, .int .i64 c]))
theorem Ends.yes {ok : Prop} {l : List UInt8} {c : Int} {e : Ending} (h : Ends ok l c e) (ho : ok) : ∃ r, e = .returned (.tuple #[.string r, .int .i64 0]) ∧ Txt r l := by
  rcases h with ⟨_, h⟩ | ⟨h, _⟩
  · exact h
  · exact absurd ho h
theorem Ends.no {ok : Prop} {l : List UInt8} {c : Int} {e : Ending} (h : Ends ok l c e) (ho : ¬ ok) : e = .returned (.tuple #[.string ⟨#[]⟩, .int .i64 c]) := by
  rcases h with ⟨h, _⟩ | ⟨_, h⟩
  · exact absurd h ho
  · exact h
end Go.Proofs.Ytacoibiafpdoaaa
