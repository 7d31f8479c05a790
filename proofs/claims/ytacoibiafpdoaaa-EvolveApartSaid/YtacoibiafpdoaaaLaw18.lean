/- The example of chapter 18. -/
import Derived.Test.YtacoibiafpdoaaaEvolve2
namespace Go.Proofs.Ytacoibiafpdoaaa
open Go Go.RowKit
set_option linter.unusedVariables false

def key18 : ByteArray := ⟨#[48, 49, 50, 51, 52, 53, 54, 55, 56, 57, 97, 98, 99, 100, 101, 102, 48, 49, 50, 51, 52, 53, 54, 55, 56, 57, 97, 98, 99, 100, 101, 102]⟩

theorem AtEnd.yes {root : List UInt8} {first epoch : Int} {e : Ending} (h : AtEnd root first epoch e) (ho : 0 ≤ epoch ∧ epoch ≤ 4294967295 ∧ first ≤ epoch ∧ 0 ≤ first ∧ root.length = 32 ∧ epoch - first ≤ 4096) :
    ∃ r, e = .returned (.tuple #[.string r, .int .i64 0]) ∧ Txt r (atL root first.toNat (epoch - first).toNat) := by
  rcases h with ⟨_, h⟩ | ⟨h, _⟩ | ⟨h, _⟩
  · exact h
  · omega
  · omega

set_option maxHeartbeats 1000000 in
theorem alive18 (w : World) :
    Calls Try.prog 60 #[] w fun e w' => e = .returned (.bool true) ∧ Below w.heap.size w w' := by
  go_enter Try.func60, Try.ntmps60
  go_wp2_with fail
  refine (at_walk key18 5 5 _).mono ?_
  rintro e w1 ⟨he, hb1⟩
  obtain ⟨a, rfl, ta⟩ := he.yes ⟨by omega, by omega, by omega, by omega, rfl, by omega⟩
  clear he
  go_wp2_with fail
  refine (firstKey_walk key18 5 _).mono ?_
  rintro e w2 ⟨he, hb2⟩
  obtain ⟨b, rfl, tb⟩ := he.yes ⟨by omega, by omega, rfl⟩
  clear he
  go_wp2_with fail
  refine (at_walk key18 5 6 _).mono ?_
  rintro e w3 ⟨he, hb3⟩
  obtain ⟨c, rfl, tc⟩ := he.yes ⟨by omega, by omega, by omega, by omega, rfl, by omega⟩
  clear he
  have hb : b.size = 32 := by rw [tb.size, madeL_length]
  go_wp2_with fail
  refine (nextKey_walk b _).mono ?_
  rintro e w4 ⟨he, hb4⟩
  obtain ⟨d, rfl, td⟩ := he.yes hb
  clear he
  have h1 : (a.toList == b.toList) = true := ta.same tb rfl
  have h2 : (c.toList == d.toList) = true := tc.same td (by rw [tb]; rfl)
  have h3 : (a.size : Int) = 32 := by rw [ta.size, atL_length]; rfl
  go_wp2_with fail
  go_ret
  have q1 := hb1.size
  have q2 := hb2.size
  have q3 := hb3.size
  exact ⟨rfl, ((hb1.trans (hb2.mono (by omega))).trans (hb3.mono (by omega))).trans (hb4.mono (by omega))⟩
end Go.Proofs.Ytacoibiafpdoaaa
