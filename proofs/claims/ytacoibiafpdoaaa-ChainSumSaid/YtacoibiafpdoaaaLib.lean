/- Contracts of Go's library at this dump, in the words of texts: strings.Repeat of a nought, strings.Clone, the Builder's writers. -/
import Derived.Test.YtacoibiafpdoaaaShelf
import Derived.Test.YtacoibiafpdoaaaBytes
import Derived.ProofKit
import Derived.Handy
import Derived.Lib.Hide
import Derived.Outline
namespace Go.Proofs.Ytacoibiafpdoaaa
open Go Go.RowKit
set_option linter.unusedVariables false

theorem repeatL_zero (n : Nat) : Lib.repeatL [0] n = List.replicate n (0 : UInt8) := by
  induction n with
  | zero => rfl
  | succ n ih => rw [List.replicate_succ, ← ih]; rfl

theorem repeat0 (c : Nat) (w : World) (hc : c ≤ 1073741824) :
    Calls Try.prog 103 #[.string ⟨#[0]⟩, .int .i64 c] w fun e w' => ∃ r, e = .returned (.string r) ∧ Txt r (List.replicate c 0) ∧ Below w.heap.size w w' := by
  have hs : (⟨#[0]⟩ : ByteArray).size = 1 := rfl
  refine (Try.strings_Repeat ⟨#[0]⟩ c w (by omega) (by rw [hs]; omega)).mono ?_
  rintro e w' ⟨rfl, hb⟩
  exact ⟨_, rfl, (Txt.mk _).cast (repeatL_zero c), hb⟩

theorem clone_walk (s : ByteArray) (w : World) (hs : s.size ≤ 281474976710656) :
    Calls Try.prog 130 #[.string s] w fun e w' => e = .returned (.string s) ∧ Below w.heap.size w w' := by
  go_enter Try.func130, Try.ntmps130
  go_wp2_with fail
  refine (Try.stringslite_Clone s w hs).mono ?_
  rintro e w' ⟨rfl, hb⟩
  go_wp2_with fail
  go_ret
  exact ⟨rfl, hb⟩
end Go.Proofs.Ytacoibiafpdoaaa
