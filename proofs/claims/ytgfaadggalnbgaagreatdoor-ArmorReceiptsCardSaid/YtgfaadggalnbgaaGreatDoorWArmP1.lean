/- Walks of strings.Cut at a text of one byte, of strings.ReplaceAll at the byte 10 and nothing. -/
import Derived.Test.YtgfaadggalnbgaaGreatDoorArmS
import Derived.Test.YtgfaadggalnbgaaGreatDoorG1
import Derived.Deep.QuietTactic
import Derived.BigQuiet
import Derived.IntWalk
namespace Go.Proofs.YtgfaadggalnbgaaGreatDoor
set_option linter.unusedSimpArgs false
set_option linter.unusedVariables false
open Go Go.RowKit
set_option linter.unusedVariables false

/-- How Cut at one byte ends. -/
def CutOne (c : UInt8) (s : ByteArray) (e : Ending) : Prop :=
  (∃ x y : ByteArray, splitC c s.data.toList = some (x.data.toList, y.data.toList) ∧ e = .returned (.tuple #[.string x, .string y, .bool true])) ∨
  (splitC c s.data.toList = none ∧ e = .returned (.tuple #[.string s, .string ⟨#[]⟩, .bool false]))
set_option maxHeartbeats 1000000 in
theorem slcut_walk (s : ByteArray) (c : UInt8) (w : World) (hs : s.size ≤ 1073741824) :
    Calls Tryz.prog 63 #[.string s, .string ⟨#[c]⟩] w fun e w' => CutOne c s e ∧ Below w.heap.size w w' := by
  have hl : s.data.toList.length = s.size := rfl
  cases hsp : splitC c s.data.toList with
  | none =>
    have hi := (splitC_none hsp).2
    have HI := Lib.hid hi
    have HS := Lib.hid hsp
    clear hi hsp hl
    go_enter Tryz.func63, Tryz.ntmps63
    go_wp2_with fail
    refine (Tryz.stringslite_Index_one s c _).mono ?_
    rintro e w1 ⟨rfl, rfl⟩
    rw [HI.out]
    go_wp2_with fail
    go_ret3
    exact ⟨.inr ⟨HS.out, rfl⟩, Below.refl _ _⟩
  | some p =>
    obtain ⟨x, y⟩ := p
    obtain ⟨h1, h2, h3⟩ := splitC_some hsp
    obtain ⟨n, hn⟩ : ∃ n, n = x.length := ⟨_, rfl⟩
    rw [← hn] at h3
    have hle : n + 1 ≤ s.size := by
      have := congrArg List.length h1
      rw [hl, List.length_append, List.length_cons] at this
      omega
    have tx : Txt (s.extract 0 n) x := ((Txt.self s).extract 0 n).cast (by rw [h1, hn]; simp)
    have ty : Txt (s.extract (n + 1) s.size) y := ((Txt.self s).extract (n + 1) s.size).cast (by rw [List.take_of_length_le (by rw [hl]; omega), h1, hn]; simp)
    have d1 : (n : Int) + 1 ≤ s.size := by omega
    have d0 : (0 : Int) ≤ (n : Int) := by omega
    have d2 : (n : Int) ≤ s.size := by omega
    have d3 : IntKind.i64.wrap ((n : Int) + 1) = (n : Int) + 1 := by rw [IntWalk.i64_in _ ⟨by omega, by omega⟩]
    have d4 : (0 : Int) ≤ (n : Int) + 1 := by omega
    have d5 : ((n : Int) + 1).toNat = n + 1 := by omega
    have H3 := Lib.hid h3
    have HSP := Lib.hid hsp
    have TX := Lib.hid tx
    have TY := Lib.hid ty
    clear h1 h2 h3 hn hl tx ty hsp
    go_enter Tryz.func63, Tryz.ntmps63
    go_wp2_with fail
    refine (Tryz.stringslite_Index_one s c _).mono ?_
    rintro e w1 ⟨rfl, rfl⟩
    rw [H3.out]
    go_wp2_with fail
    go_quiet (fail)
    go_wp2_with fail
    go_ret3
    refine ⟨.inl ⟨_, _, ?_, rfl⟩, ⟨rfl, rfl, rfl, Nat.le_refl _, fun _ _ => rfl⟩⟩
    rw [HSP.out, show (s.extract 0 n).data.toList = _ from TX.out, show (s.extract (n + 1) s.size).data.toList = _ from TY.out]
theorem scut_walk (s : ByteArray) (c : UInt8) (w : World) (hs : s.size ≤ 1073741824) :
    Calls Tryz.prog 45 #[.string s, .string ⟨#[c]⟩] w fun e w' => CutOne c s e ∧ Below w.heap.size w w' := by
  go_enter Tryz.func45, Tryz.ntmps45
  go_wp2_with fail
  refine (slcut_walk s c _ hs).mono ?_
  rintro e w1 ⟨he, hb⟩
  have HB := Lib.hid hb
  clear hb
  rcases he with ⟨x, y, h, rfl⟩ | ⟨h, rfl⟩
  · have H := Lib.hid h; clear h
    go_wp2_with fail
    go_ret3
    exact ⟨.inl ⟨_, _, H.out, rfl⟩, HB.out⟩
  · have H := Lib.hid h; clear h
    go_wp2_with fail
    go_ret3
    exact ⟨.inr ⟨H.out, rfl⟩, HB.out⟩
end Go.Proofs.YtgfaadggalnbgaaGreatDoor
