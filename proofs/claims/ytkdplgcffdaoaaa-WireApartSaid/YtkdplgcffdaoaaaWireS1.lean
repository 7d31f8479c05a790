/- Walks of the documents' Texts (chapter 1) and Same (chapter 16). -/
import Derived.Test.YtkdplgcffdaoaaaWireC5
import Derived.Deep.QuietTactic
namespace Go.Proofs.Ytkdplgcffdaoaaa
set_option linter.unusedSimpArgs false
set_option linter.unusedVariables false
open Go Go.RowKit
set_option linter.unusedVariables false

/-- So long as a row may be. -/
structure Long (n : Nat) : Prop where
  le : n ≤ 9223372036854775807
theorem Long.of {n k : Nat} (h : n ≤ k) (hk : k ≤ 9223372036854775807) : Long n := ⟨Nat.le_trans h hk⟩
theorem PRow.at {w : World} {p : Option Addr} {n c : Nat} {xs : List ByteArray} (h : PRow w (.slice p n c) xs) (hn : n = xs.length) {k : Nat} {x : ByteArray} (hx : xs[k]? = some x) : ∃ g o, p = some ⟨g, o, none⟩ ∧ w.cell? ⟨g, o + k, none⟩ = some (.string x) := by
  rcases h with ⟨h1, _⟩ | ⟨g, o, c', h1, _, _, h2⟩
  · subst h1; simp at hx
  · injection h1 with h1 _ _
    exact ⟨g, o, h1, h2 k x hx⟩
set_option maxHeartbeats 2000000 in
theorem texts01_walk (v v' : Value) (xs ys : List ByteArray) (w : World) (h : PRow w v xs) (h' : PRow w v' ys) (hl : Long xs.length) (hl' : Long ys.length) :
    Calls Try.prog 36 #[v, v'] w fun e w' => e = .returned (.bool (decide (xs = ys))) ∧ Below w.heap.size w w' := by
  obtain ⟨p, c, rfl⟩ := h.shape
  obtain ⟨p', c', rfl⟩ := h'.shape
  obtain ⟨n, hn⟩ : ∃ n, n = xs.length := ⟨_, rfl⟩
  obtain ⟨m, hm⟩ : ∃ m, m = ys.length := ⟨_, rfl⟩
  rw [← hn] at h hl ⊢
  rw [← hm] at h' hl' ⊢
  obtain ⟨r, hr⟩ : ∃ r, r = decide (xs = ys) := ⟨_, rfl⟩
  rw [← hr]
  have HR := Lib.hid hr; have HN := Lib.hid hn; have HM := Lib.hid hm; have H1 := Lib.hid h; have H2 := Lib.hid h'
  clear hr hn hm h h'
  by_cases hnm : n = m
  · subst hnm
    go_enter Try.func36, Try.ntmps36
    go_wp2_with fail
    go_loopw [5] (fun i wr => ∃ k : Nat, k ≤ n ∧ i = .int .i64 k ∧ (∀ j : Nat, j < k → xs[j]? = ys[j]?) ∧ Below w.heap.size w wr) (fun i _ => n - (intOf i).toNat)
    case atStart => exact ⟨0, by omega, rfl, fun j hj => by omega, Below.refl _ _⟩
    case round =>
      obtain ⟨k, hk, rfl, hh, hbel⟩ := hrel
      have HH := Lib.hid hh; clear hh
      have HB := Lib.hid hbel; clear hbel
      by_cases hlt : k < n
      · have hlt' : (k : Int) < n := by omega
        have hk9 : (k : Int) + 1 ≤ 9223372036854775807 := by have := hl.le; omega
        have h00 : (0 : Int) ≤ (k : Int) := by omega
        obtain ⟨x, hx⟩ : ∃ x, xs[k]? = some x := ⟨_, List.getElem?_eq_getElem (by rw [← HN.out]; exact hlt)⟩
        obtain ⟨y, hy⟩ : ∃ y, ys[k]? = some y := ⟨_, List.getElem?_eq_getElem (by rw [← HM.out]; exact hlt)⟩
        obtain ⟨g, o, hp, cx⟩ := (H1.out.below HB.out (Nat.le_refl _)).at HN.out hx
        obtain ⟨g', o', hp', cy⟩ := (H2.out.below HB.out (Nat.le_refl _)).at HM.out hy
        subst hp hp'
        have HX := Lib.hid hx; have HY := Lib.hid hy
        clear hx hy
        by_cases hxy : x = y
        · have e1 : (x.toList == y.toList) = true := by rw [hxy]; simp
          have HXY := Lib.hid hxy; clear hxy
          go_wp2_with fail
          go_quiet (fail)
          go_wp2_with fail
          go_roundw
          case rel =>
            refine ⟨k + 1, by omega, by go_num, fun j hj => ?_, by first | exact HB.out.drew | exact Below.drewN HB.out _ | exact HB.out⟩
            by_cases hjk : j = k
            · rw [hjk, HX.out, HY.out, HXY.out]
            · exact HH.out j (by omega)
          case measure => simp [intOf]; omega
        · have e1 : (x.toList == y.toList) = false := (Txt.self x).other (Txt.self y) (fun e => hxy (by
            have h1 := (Txt.self x).of
            have h2 := (Txt.self y).of
            rw [h1, h2, e]))
          have hf : r = false := by
            rw [HR.out]
            refine decide_eq_false fun e => hxy ?_
            have h1 := HX.out
            rw [e, HY.out] at h1
            exact (Option.some.inj h1).symm
          have HF := Lib.hid hf; clear hf hxy
          go_wp2_with fail
          go_quiet (fail)
          go_wp2_with fail
          go_ret
          exact ⟨by rw [HF.out]; rfl, by first | exact HB.out.drew | exact Below.drewN HB.out _ | exact HB.out⟩
      · obtain rfl : k = n := by omega
        have hf : r = true := by
          rw [HR.out]
          refine decide_eq_true (List.ext_getElem? fun j => ?_)
          by_cases hj : j < k
          · exact HH.out j hj
          · rw [List.getElem?_eq_none (by rw [← HN.out]; omega), List.getElem?_eq_none (by rw [← HM.out]; omega)]
        have HF := Lib.hid hf; clear hf
        go_wp2_with fail
        go_ret
        exact ⟨by rw [HF.out]; rfl, HB.out⟩
  · have hnm' : ¬ (n : Int) = m := by omega
    have hf : r = false := by
      rw [HR.out]
      refine decide_eq_false fun e => hnm ?_
      rw [HN.out, HM.out, e]
    have HF := Lib.hid hf; clear hf hnm
    go_enter Try.func36, Try.ntmps36
    go_wp2_with fail
    go_ret
    exact ⟨by rw [HF.out]; rfl, Below.refl _ _⟩
end Go.Proofs.Ytkdplgcffdaoaaa
