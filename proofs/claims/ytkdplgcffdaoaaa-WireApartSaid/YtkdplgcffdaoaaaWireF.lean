/- Walks of the documents' Few (chapters 16, 27): how much of a message is gone through. -/
import Derived.Test.YtkdplgcffdaoaaaWireS2
import Derived.Test.YtkdplgcffdaoaaaOpenM
import Derived.BigQuiet
namespace Go.Proofs.Ytkdplgcffdaoaaa
set_option linter.unusedSimpArgs false
set_option linter.unusedVariables false
open Go Go.RowKit
set_option linter.unusedVariables false

set_option maxHeartbeats 1000000 in
/-- How many bytes texts have; nothing turns. -/
theorem bytes01q_walk (v : Value) (xs : List ByteArray) (w : World) (h : PRow w v xs) (hx : xs.length ≤ 2000) :
    Calls Try.prog 31 #[v] w fun e w' => e = .returned (.int .i64 (bytesN xs : Nat)) ∧ w = w' := by
  by_cases c0 : xs = []
  · subst c0
    obtain ⟨p, c, rfl⟩ := h.shape
    clear h
    go_enter Try.func31, Try.ntmps31
    go_wp2_with fail
    go_loop [3, 4] (fun n i => n = .int .i64 0 ∧ i = .int .i64 0) (fun _ i => 0)
    case atStart => exact ⟨rfl, rfl⟩
    case round =>
      obtain ⟨rfl, rfl⟩ := hrel
      go_wp2_with fail
      go_ret
      exact ⟨rfl, rfl⟩
  rcases h with ⟨rfl, _⟩ | ⟨g, o, c, rfl, hg, _, hc⟩
  · exact absurd rfl c0
  clear c0
  have HC := Lib.hid hc; clear hc
  go_enter Try.func31, Try.ntmps31
  go_wp2_with fail
  go_loop [3, 4] (fun n i => ∃ k m : Nat, k ≤ xs.length ∧ i = .int .i64 k ∧ n = .int .i64 m ∧ m = bytesN (xs.take k) ∧ m ≤ 100000 * k) (fun _ i => xs.length - (intOf i).toNat)
  case atStart => exact ⟨0, 0, by omega, rfl, rfl, rfl, by omega⟩
  case round =>
    obtain ⟨k, m, hk, rfl, rfl, hm, hm2⟩ := hrel
    have HM := Lib.hid hm; clear hm
    by_cases hlt : k < xs.length
    · have hlt' : (k : Int) < xs.length := by omega
      obtain ⟨x, hxk⟩ : ∃ x, xs[k]? = some x := ⟨_, List.getElem?_eq_getElem hlt⟩
      have ck := HC.out k x hxk
      have HX := Lib.hid hxk; clear hxk
      have hk2 : (k : Int) < 2000 := by omega
      by_cases hb : x.size ≤ 100000
      · have e1 : min (x.size : Int) 100000 = (x.size : Int) := by omega
        have HE := Lib.hid e1; clear e1
        have hb' : (x.size : Int) ≤ 100000 := by omega
        go_wp2_with fail
        go_round
        case rel =>
          refine ⟨k + 1, m + x.size, by omega, by go_num, ?_, by rw [bytesN_snoc _ _ _ HX.out, ← HM.out]; omega, by omega⟩
          try rw [HE.out]
          go_num
        case measure => simp [intOf]; omega
      · have e1 : min (x.size : Int) 100000 = 100000 := by omega
        have HE := Lib.hid e1; clear e1
        have hb' : (100000 : Int) < x.size := by omega
        go_wp2_with fail
        go_round
        case rel =>
          refine ⟨k + 1, m + 100000, by omega, by go_num, ?_, by rw [bytesN_snoc _ _ _ HX.out, ← HM.out]; omega, by omega⟩
          try rw [HE.out]
          go_num
        case measure => simp [intOf]; omega
    · obtain rfl : k = xs.length := by omega
      go_wp2_with fail
      go_ret
      refine ⟨?_, rfl⟩
      rw [show bytesN xs = m by rw [HM.out, List.take_length]]
      rfl
/-- Is a proof gone through? -/
def fewP (t : ToldD) : Bool := decide (t.up.length ≤ 30) && decide (t.left.length ≤ 30) && decide (min t.here.hash.size 10000 + min t.ahead.hash.size 10000 + bytesN t.up + bytesN t.left ≤ 8000)
theorem min_cast (n : Nat) : ∃ k : Nat, k = min n 10000 ∧ min (n : Int) 10000 = (k : Int) ∧ k ≤ 10000 := ⟨min n 10000, rfl, by omega, by omega⟩
set_option maxRecDepth 100000 in
set_option maxHeartbeats 4000000 in
theorem few16_walk (t : ToldD) (u l : Value) (w : World) (hu : PRow w u t.up) (hl : PRow w l t.left) (hul : Long t.up.length) (hll : Long t.left.length) :
    Calls Try.prog 17 #[.slice none 0 0, .agg (t.pcells u l).toArray] w fun e w' => e = .returned (.bool (fewP t)) ∧ Below w.heap.size w w' := by
  obtain ⟨r, hr⟩ : ∃ r, r = fewP t := ⟨_, rfl⟩
  rw [← hr]
  have HR := Lib.hid hr; clear hr
  obtain ⟨p, c, rfl⟩ := hu.shape
  obtain ⟨p', c', rfl⟩ := hl.shape
  have HU := Lib.hid hu; clear hu
  have HL := Lib.hid hl; clear hl
  go_enter Try.func17, Try.ntmps17
  go_wp2_with ((with_reducible refine wpList_box_new 33 (.tmp 1) (t.pcells (.slice p t.up.length c) (.slice p' t.left.length c')) (some 3) ?hgd ?ho ?hd ?hx ?_); (case hgd => rfl); (case ho => rfl); (case hd => rfl); (case hx => rfl); (intro b1 w1 l1 B1 e1 z1))
  have hb1 : Below w.heap.size w w1 := e1.mono l1
  have c3 := B1.cell (i := 3) rfl
  have c5 := B1.cell (i := 5) rfl
  have c6 := B1.cell (i := 6) rfl
  have c7 := B1.cell (i := 7) rfl
  clear e1 l1 z1
  have HB := Lib.hid hb1; clear hb1
  go_loop [5, 6] (fun n i => n = .int .i64 0 ∧ i = .int .i64 0) (fun _ i => 0)
  case atStart => exact ⟨rfl, rfl⟩
  case round =>
    obtain ⟨rfl, rfl⟩ := hrel
    by_cases h1 : t.up.length ≤ 30
    rotate_left
    · have hf : r = false := by rw [HR.out]; simp [fewP, h1]
      have HF := Lib.hid hf; clear hf
      have h1' : ¬ (t.up.length : Int) ≤ 30 := by omega
      have d1 : decide (t.up.length ≤ 30) = false := decide_eq_false h1
      have d1' : decide ((t.up.length : Int) ≤ 30) = false := decide_eq_false h1'
      go_wp2_with fail
      go_quiet (fail)
      go_wp2_with fail
      go_ret
      exact ⟨by rw [HF.out]; rfl, by first | exact HB.out.drew | exact Below.drewN HB.out _ | exact HB.out⟩
    have h1' : (t.up.length : Int) ≤ 30 := by omega
    have d1 : decide (t.up.length ≤ 30) = true := decide_eq_true h1
    have d1' : decide ((t.up.length : Int) ≤ 30) = true := decide_eq_true h1'
    by_cases h2 : t.left.length ≤ 30
    rotate_left
    · have hf : r = false := by rw [HR.out]; simp [fewP, h2]
      have HF := Lib.hid hf; clear hf
      have h2' : ¬ (t.left.length : Int) ≤ 30 := by omega
      have d2 : decide (t.left.length ≤ 30) = false := decide_eq_false h2
      have d2' : decide ((t.left.length : Int) ≤ 30) = false := decide_eq_false h2'
      go_wp2_with fail
      go_quiet (fail)
      go_wp2_with fail
      go_ret
      exact ⟨by rw [HF.out]; rfl, by first | exact HB.out.drew | exact Below.drewN HB.out _ | exact HB.out⟩
    have h2' : (t.left.length : Int) ≤ 30 := by omega
    have d2 : decide (t.left.length ≤ 30) = true := decide_eq_true h2
    have d2' : decide ((t.left.length : Int) ≤ 30) = true := decide_eq_true h2'
    have n1 := bytesN_le t.up
    have n2 := bytesN_le t.left
    obtain ⟨x, hx⟩ : ∃ x, x = bytesN t.up := ⟨_, rfl⟩
    obtain ⟨y, hy⟩ : ∃ y, y = bytesN t.left := ⟨_, rfl⟩
    have hx2 : (x : Int) ≤ 3000000 := by omega
    have hy2 : (y : Int) ≤ 3000000 := by omega
    have k1 : ∀ n, Calls Try.prog 31 #[.slice p t.up.length c] (w1.drewN n) fun e w' => e = .returned (.int .i64 (x : Int)) ∧ w' = w1.drewN n := fun n =>
      (bytes01q_walk _ t.up _ ((PRow.below HU.out HB.out (Nat.le_refl _)).turned ((Turned.refl _ _).drewN n)) (by omega)).mono (by rintro e w' ⟨rfl, rfl⟩; exact ⟨by rw [hx], rfl⟩)
    have k2 : ∀ n, Calls Try.prog 31 #[.slice p' t.left.length c'] (w1.drewN n) fun e w' => e = .returned (.int .i64 (y : Int)) ∧ w' = w1.drewN n := fun n =>
      (bytes01q_walk _ t.left _ ((PRow.below HL.out HB.out (Nat.le_refl _)).turned ((Turned.refl _ _).drewN n)) (by omega)).mono (by rintro e w' ⟨rfl, rfl⟩; exact ⟨by rw [hy], rfl⟩)
    have hv : r = decide (min t.here.hash.size 10000 + min t.ahead.hash.size 10000 + x + y ≤ 8000) := by
      rw [HR.out, fewP, ← hx, ← hy, decide_eq_true h1, decide_eq_true h2, Bool.true_and, Bool.true_and]
    have HV := Lib.hid hv; clear hv
    have HXX := Lib.hid hx; clear hx
    have HYY := Lib.hid hy; clear hy
    clear n1 n2
    by_cases g1 : t.here.hash.size ≤ 10000
    all_goals by_cases g2 : t.ahead.hash.size ≤ 10000
    all_goals
      first
      | have g1' : (t.here.hash.size : Int) ≤ 10000 := by omega
      | have g1' : (10000 : Int) < t.here.hash.size := by omega
      first
      | have g2' : (t.ahead.hash.size : Int) ≤ 10000 := by omega
      | have g2' : (10000 : Int) < t.ahead.hash.size := by omega
      go_wp2_with fail
      go_quiet ((go_at_call 31; first | (with_reducible exact Calls.quiet_of_same (k1 _)) | (with_reducible exact Calls.quiet_of_same (k2 _))))
      go_wp2_with fail
      go_ret
      refine ⟨ret_b ?_, by first | exact HB.out.drew | exact Below.drewN HB.out _ | exact HB.out⟩
      rw [HV.out, Bool.eq_iff_iff]
      simp only [decide_eq_true_eq]
      omega
end Go.Proofs.Ytkdplgcffdaoaaa
