/- Walks of the documents' chapter 18: Made, At, Data. -/
import Derived.Test.YtacoibiafpdoaaaRef8
import Derived.Test.YtacoibiafpdoaaaEvolve2
namespace Go.Proofs.Ytacoibiafpdoaaa
open Go Go.RowKit
set_option linter.unusedVariables false

/-- How Made ends. -/
def MadeEnd (key label : List UInt8) (xs : List Int) (e : Ending) : Prop :=
  ((key.length = 32 ∧ saidOk label xs = true) ∧ ∃ r, e = .returned (.tuple #[.string r, .bool true]) ∧ Txt r (madeL key label (xs.map Int.toNat))) ∨
  (¬ (key.length = 32 ∧ saidOk label xs = true) ∧ e = .returned (.tuple #[.string ⟨#[]⟩, .bool false]))

theorem rmade_walk (key label : ByteArray) (v : Value) (xs : List Int) (w : World) (h : IntRow w v xs) (hx : ∀ (j : Nat) (x : Int), xs[j]? = some x → x < 9223372036854775808) (hxl : xs.length ≤ 1073741824) :
    Calls Try.prog 80 #[.string key, .string label, v] w fun e w' => MadeEnd key.data.toList label.data.toList xs e ∧ Below w.heap.size w w' := by
  have Hx : ∀ (j : Nat) (x : Int), xs[j]? = some x → I64 x := fun j x h => ⟨hx j x h⟩
  clear hx
  have HX := Lib.hid Hx; clear Hx
  have H := Lib.hid h; clear h
  by_cases c1 : key.size = 32
  · have d1 : (key.size : Int) = 32 := by omega
    go_enter Try.func80, Try.ntmps80
    go_wp2_with fail
    refine (rsaid_walk label v xs _ H.out (fun j x h => (HX.out j x h).lt) hxl).mono ?_
    rintro e w1 ⟨⟨hok, r, rfl, tr⟩ | ⟨hno, rfl⟩, hb1⟩
    · have hlen := saidOk_len hok
      have hr : r.size ≤ 85 := by rw [tr.size, saidL_length, List.length_map]; omega
      have HK := Lib.hid hok; clear hok hlen
      go_wp2_with fail
      refine (rmac_walk key r _ (by omega) (by omega)).mono ?_
      rintro e w2 ⟨q, rfl, tq, hb2⟩
      go_wp2_with fail
      go_ret2
      exact ⟨.inl ⟨⟨c1, HK.out⟩, q, rfl, tq.cast (by rw [tr]; rfl)⟩, hb1.trans (hb2.mono hb1.size)⟩
    · have HN := Lib.hid hno; clear hno
      go_wp2_with fail
      go_ret2
      exact ⟨.inr ⟨fun hh => by rw [HN.out] at hh; exact absurd hh.2 (by decide), rfl⟩, hb1⟩
  · have d1 : ¬ (key.size : Int) = 32 := by omega
    go_enter Try.func80, Try.ntmps80
    go_wp2_with fail
    refine (rsaid_walk label v xs _ H.out (fun j x h => (HX.out j x h).lt) hxl).mono ?_
    rintro e w1 ⟨⟨hok, r, rfl, tr⟩ | ⟨hno, rfl⟩, hb1⟩
    · have HK := Lib.hid hok; clear hok
      go_wp2_with fail
      go_ret2
      exact ⟨.inr ⟨fun hh => c1 hh.1, rfl⟩, hb1⟩
    · have HN := Lib.hid hno; clear hno
      go_wp2_with fail
      go_ret2
      exact ⟨.inr ⟨fun hh => c1 hh.1, rfl⟩, hb1⟩
end Go.Proofs.Ytacoibiafpdoaaa
