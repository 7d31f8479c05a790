/- Walk of DeriveKeys: for every master, label and row of numbers the law returns true: what they are said as, and the key, are as the documents say. No condition. -/
import Derived.Test.YtacoibiafpdoaaaLaw04
import Derived.Test.YtacoibiafpdoaaaRef8
import Derived.Test.YtacoibiafpdoaaaOpen
namespace Go.Proofs.Ytacoibiafpdoaaa
open Go Go.RowKit
set_option linter.unusedVariables false

theorem SaidEnd.two {label : List UInt8} {xs : List Int} {e : Ending} (h : SaidEnd label xs e) :
    (∃ r, e = .returned (.tuple #[.string r, .int .i64 0]) ∧ saidOk label xs = true ∧ Txt r (saidL label (xs.map Int.toNat)) ∧ ∀ f, SaidEnd label xs f → ∃ q, f = .returned (.tuple #[.string q, .int .i64 0]) ∧ (r.toList == q.toList) = true) ∨
    (e = .returned (.tuple #[.string ⟨#[]⟩, .int .i64 2]) ∧ saidOk label xs = false ∧ ∀ f, SaidEnd label xs f → f = .returned (.tuple #[.string ⟨#[]⟩, .int .i64 2])) := by
  rcases h with ⟨c, r, he, tr⟩ | ⟨c, he⟩
  · refine .inl ⟨r, he, c, tr, fun f h => ?_⟩
    rcases h with ⟨c', q, hf, tq⟩ | ⟨c', hf⟩
    · exact ⟨q, hf, tr.same tq rfl⟩
    · rw [c] at c'; exact absurd c' (by decide)
  · refine .inr ⟨he, c, fun f h => ?_⟩
    rcases h with ⟨c', q, hf, tq⟩ | ⟨c', hf⟩
    · rw [c] at c'; exact absurd c' (by decide)
    · exact hf
theorem KeyEnd.two {master label : List UInt8} {xs : List Int} {e : Ending} (h : KeyEnd master label xs e) :
    (∃ r, e = .returned (.tuple #[.string r, .int .i64 0]) ∧ ∀ f, KeyEnd master label xs f → ∃ q, f = .returned (.tuple #[.string q, .int .i64 0]) ∧ (r.toList == q.toList) = true) ∨
    (e = .returned (.tuple #[.string ⟨#[]⟩, .int .i64 2]) ∧ ∀ f, KeyEnd master label xs f → f = .returned (.tuple #[.string ⟨#[]⟩, .int .i64 2])) := by
  rcases h with ⟨c, r, he, tr⟩ | ⟨c, he⟩
  · refine .inl ⟨r, he, fun f h => ?_⟩
    rcases h with ⟨c', q, hf, tq⟩ | ⟨c', hf⟩
    · exact ⟨q, hf, tr.same tq rfl⟩
    · rw [c] at c'; exact absurd c' (by decide)
  · refine .inr ⟨he, fun f h => ?_⟩
    rcases h with ⟨c', q, hf, tq⟩ | ⟨c', hf⟩
    · rw [c] at c'; exact absurd c' (by decide)
    · exact hf

theorem IntsIn.cases {w : World} {v : Value} {xs : List Int} (h : IntsIn w v xs) : ∃ (p : Option Addr) (c : Nat), v = .slice p xs.length c := by
  rcases h.row with ⟨rfl, p, c, rfl⟩ | ⟨g, o, c, rfl, _⟩
  · exact ⟨p, c, rfl⟩
  · exact ⟨_, c, rfl⟩

set_option maxHeartbeats 1000000 in
theorem deriveKeys_walk (master label : ByteArray) (v : Value) (xs : List Int) (w : World) (h : IntsIn w v xs) :
    Calls Try.prog 8 #[.string master, .string label, v] w fun e w' => e = .returned (.bool true) ∧ Below w.heap.size w w' := by
  obtain ⟨p, c, rfl⟩ := h.cases
  have H := Lib.hid h; clear h
  by_cases c1 : 200 < master.size
  · have d1 : (200 : Int) < master.size := by omega
    go_enter Try.func8, Try.ntmps8
    go_wp2_with fail
    refine (alive04 _).mono ?_
    rintro e w1 ⟨rfl, hb1⟩
    go_wp2_with fail
    go_ret
    exact ⟨rfl, hb1⟩
  by_cases c2 : 100 < xs.length
  · have d1 : (master.size : Int) ≤ 200 := by omega
    have d2 : (100 : Int) < xs.length := by omega
    go_enter Try.func8, Try.ntmps8
    go_wp2_with fail
    refine (alive04 _).mono ?_
    rintro e w1 ⟨rfl, hb1⟩
    go_wp2_with fail
    go_ret
    exact ⟨rfl, hb1⟩
  have d1 : (master.size : Int) ≤ 200 := by omega
  have d2 : (xs.length : Int) ≤ 100 := by omega
  have hx : ∀ (j : Nat) (x : Int), xs[j]? = some x → x < 9223372036854775808 := fun j x h => by have := (H.out.fits j x h).2; omega
  have HX := Lib.hid hx; clear hx
  go_enter Try.func8, Try.ntmps8
  go_wp2_with fail
  refine (said_walk label _ xs _ H.out.row HX.out (by omega)).mono ?_
  rintro e w1 ⟨he, hb1⟩
  have H1 := H.out.below hb1 (Nat.le_refl _)
  clear H
  have H := Lib.hid H1; clear H1
  rcases he.two with ⟨r, rfl, _, _, h2⟩ | ⟨rfl, _, h2⟩
  all_goals
    have H2 := Lib.hid h2; clear h2 he
    go_wp2_with fail
    refine (rsaid_walk label _ xs _ H.out.row HX.out (by omega)).mono ?_
    rintro e w2 ⟨he, hb2⟩
    have H1 := H.out.below hb2 (Nat.le_refl _)
    clear H
    have H := Lib.hid H1; clear H1
    first | (obtain ⟨q, rfl, hq⟩ := H2.out _ he) | (obtain rfl := H2.out _ he)
    clear he H2
    go_wp2_with fail
    refine (key_walk master label _ xs _ (by omega) H.out.row HX.out (by omega)).mono ?_
    rintro e w3 ⟨he, hb3⟩
    have H1 := H.out.below hb3 (Nat.le_refl _)
    clear H
    have H := Lib.hid H1; clear H1
    rcases he.two with ⟨r3, rfl, h2⟩ | ⟨rfl, h2⟩
    all_goals
      have H2 := Lib.hid h2; clear h2 he
      go_wp2_with fail
      refine (rkey04_walk master label _ xs _ (by omega) H.out.row HX.out (by omega)).mono ?_
      rintro e w4 ⟨he, hb4⟩
      first | (obtain ⟨q3, rfl, hq3⟩ := H2.out _ he) | (obtain rfl := H2.out _ he)
      clear he H2 H
      go_wp2_with fail
      refine (alive04 _).mono ?_
      rintro e w5 ⟨rfl, hb5⟩
      go_wp2_with fail
      go_ret
      exact ⟨rfl, bt hb1 (bt hb2 (bt hb3 (bt hb4 hb5)))⟩
end Go.Proofs.Ytacoibiafpdoaaa
