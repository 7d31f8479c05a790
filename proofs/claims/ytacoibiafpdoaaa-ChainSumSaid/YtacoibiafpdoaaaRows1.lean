/- Walks of the documents' Ints, Bytes (chapter 01) and Join (chapter 02): rows of numbers and texts that came in. -/
import Derived.Test.YtacoibiafpdoaaaOpen
import Derived.Test.YtacoibiafpdoaaaRef6
import Derived.Deep.QuietTactic
import Derived.BigQuiet
namespace Go.Proofs.Ytacoibiafpdoaaa
open Go Go.RowKit
set_option linter.unusedVariables false

theorem IntsIn.shape {w : World} {v : Value} {xs : List Int} (h : IntsIn w v xs) : ∃ (p : Option Addr) (c : Nat), v = .slice p xs.length c := by
  rcases h.row with ⟨rfl, p, c, rfl⟩ | ⟨g, o, c, rfl, _⟩
  · exact ⟨p, c, rfl⟩
  · exact ⟨_, c, rfl⟩
theorem StrsIn.shape {w : World} {v : Value} {xs : List ByteArray} (h : StrsIn w v xs) : ∃ (p : Option Addr) (c : Nat), v = .slice p xs.length c := by
  rcases h.row with ⟨rfl, p, c, rfl⟩ | ⟨g, o, c, rfl, _⟩
  · exact ⟨p, c, rfl⟩
  · exact ⟨_, c, rfl⟩

theorem ret_bool {a b : Bool} (h : a = b) : Ending.returned (Value.bool a) = Ending.returned (Value.bool b) := by rw [h]
theorem ints_other {xs ys : List Int} (h : xs.length ≠ ys.length) : decide (xs = ys) = false := by
  simp; intro e; exact h (by rw [e])

set_option maxHeartbeats 1000000 in
theorem ints01_walk (a b : Value) (xs ys : List Int) (w : World) (ha : IntsIn w a xs) (hb : IntsIn w b ys) (hx : xs.length ≤ 1073741824) (hy : ys.length ≤ 1073741824) :
    Calls Try.prog 57 #[a, b] w fun e w' => e = .returned (.bool (decide (xs = ys))) ∧ Below w.heap.size w w' := by
  by_cases c1 : xs.length = ys.length
  rotate_left
  · obtain ⟨p, c, rfl⟩ := ha.shape
    obtain ⟨q, d, rfl⟩ := hb.shape
    have hd := ints_other c1
    have d1 : ((xs.length : Int) == (ys.length : Int)) = false := by simpa using fun h => c1 (by omega)
    have d2 : ((xs.length : Int) != (ys.length : Int)) = true := by simpa using fun h => c1 (by omega)
    have HD := Lib.hid hd; clear hd
    clear ha hb
    go_enter Try.func57, Try.ntmps57
    go_wp2_with fail
    go_ret
    exact ⟨ret_bool HD.out.symm, Below.refl _ _⟩
  obtain ⟨n, Hn⟩ : ∃ n, Hid (n = xs.length) := ⟨_, rfl⟩
  by_cases c0 : xs = []
  · subst c0
    have : ys = [] := List.eq_nil_of_length_eq_zero (by simpa using c1.symm)
    subst this
    obtain ⟨p, c, rfl⟩ := ha.shape
    obtain ⟨q, d, rfl⟩ := hb.shape
    clear ha hb
    go_enter Try.func57, Try.ntmps57
    go_wp2_with fail
    go_loop [5] (fun i => i = .int .i64 0) (fun i => 0)
    case atStart => rfl
    case round =>
      subst hrel
      go_wp2_with fail
      go_ret
      exact ⟨rfl, Below.refl _ _⟩
  rcases ha.row with ⟨rfl, _⟩ | ⟨g, o, c, rfl, hg, hc⟩
  · exact absurd rfl c0
  rcases hb.row with ⟨rfl, _⟩ | ⟨g', o', c', rfl, hg', hc'⟩
  · exact absurd (List.eq_nil_of_length_eq_zero (by simpa using c1)) c0
  clear ha hb c0
  rw [← c1] at hy
  rw [← c1, ← Hn.out]
  rw [← Hn.out] at hx
  have HC := Lib.hid hc; clear hc
  have HC' := Lib.hid hc'; clear hc'
  have H1 := Lib.hid c1; clear c1 hy
  go_enter Try.func57, Try.ntmps57
  go_wp2_with fail
  go_loopw [5] (fun i wr => ∃ k : Nat, k ≤ n ∧ i = .int .i64 k ∧ (∀ j, j < k → xs[j]? = ys[j]?) ∧ Below w.heap.size w wr) (fun i _ => n - (intOf i).toNat)
  case atStart => exact ⟨0, by omega, rfl, fun j h => by omega, Below.refl _ _⟩
  case round =>
    obtain ⟨k, hk, rfl, hs, hbel⟩ := hrel
    have HS := Lib.hid hs; clear hs
    by_cases hlt : k < n
    · have hlt' : (k : Int) < n := by omega
      have hlx : k < xs.length := by have := Hn.out; omega
      have hly : k < ys.length := by have := Hn.out; have := H1.out; omega
      obtain ⟨x, hxk⟩ : ∃ x, xs[k]? = some x := ⟨_, List.getElem?_eq_getElem hlx⟩
      obtain ⟨y, hyk⟩ : ∃ y, ys[k]? = some y := ⟨_, List.getElem?_eq_getElem hly⟩
      have ck : wr.cell? ⟨g, o + k, none⟩ = some (.int .i64 x) := by rw [hbel.cell (by show g < w.heap.size; exact hg)]; exact HC.out k x hxk
      have ck' : wr.cell? ⟨g', o' + k, none⟩ = some (.int .i64 y) := by rw [hbel.cell (by show g' < w.heap.size; exact hg')]; exact HC'.out k y hyk
      have h0 : (0 : Int) ≤ (k : Int) := by omega
      have HX := Lib.hid hxk; clear hxk
      have HY := Lib.hid hyk; clear hyk
      clear hlx hly
      by_cases e : x = y
      · have e1 : (x != y) = false := by simpa using e
        have e2 : (x == y) = true := by simpa using e
        have HE := Lib.hid e; clear e
        go_wp2_with fail
        go_quiet (fail)
        go_wp2_with fail
        go_roundw
        case rel =>
          refine ⟨k + 1, by omega, by go_num, fun j hj => ?_, Below.drewN hbel _⟩
          by_cases e : j = k
          · rw [e, HX.out, HY.out, HE.out]
          · exact HS.out j (by omega)
        case measure => simp [intOf]; omega
      · have e1 : (x != y) = true := by simpa using e
        have e2 : (x == y) = false := by simpa using e
        have HE := Lib.hid e; clear e
        go_wp2_with fail
        go_quiet (fail)
        go_wp2_with fail
        go_ret
        refine ⟨ret_bool (decide_eq_false ?_).symm, Below.drewN hbel _⟩
        intro hh
        have h1 := HX.out
        rw [hh, HY.out] at h1
        exact HE.out (Option.some.inj h1).symm
    · obtain rfl : k = n := by omega
      go_wp2_with fail
      go_ret
      refine ⟨ret_bool (decide_eq_true ?_).symm, hbel⟩
      apply List.ext_getElem?
      intro j
      by_cases hj : j < k
      · exact HS.out j hj
      · have h1 := Hn.out
        have h2 := H1.out
        rw [List.getElem?_eq_none (by omega), List.getElem?_eq_none (by omega)]

/-- How many bytes texts have, each counted up to 100000. -/
def bytesN (xs : List ByteArray) : Nat := (xs.map fun x => min x.size 100000).sum
theorem bytesN_snoc (xs : List ByteArray) (k : Nat) (x : ByteArray) (h : xs[k]? = some x) : bytesN (xs.take (k + 1)) = bytesN (xs.take k) + min x.size 100000 := by
  obtain ⟨hk, rfl⟩ := List.getElem?_eq_some_iff.1 h
  unfold bytesN
  rw [List.take_succ_eq_append_getElem hk, List.map_append, List.sum_append]
  simp only [List.map_cons, List.map_nil, List.sum_cons, List.sum_nil, Nat.add_zero]
theorem bytesN_le (xs : List ByteArray) : bytesN xs ≤ 100000 * xs.length := by
  induction xs with
  | nil => simp [bytesN]
  | cons a r ih => simp only [bytesN, List.map_cons, List.sum_cons, List.length_cons] at *; omega
theorem catL_bytesN (xs : List ByteArray) (h : bytesN xs < 100000) : (catL xs).length ≤ bytesN xs := by
  induction xs with
  | nil => simp [catL]
  | cons a r ih =>
    simp only [bytesN, List.map_cons, List.sum_cons] at *
    have := ih (by omega)
    simp only [catL, List.flatMap_cons, List.length_append] at *
    have e : a.data.toList.length = a.size := rfl
    omega

set_option maxHeartbeats 1000000 in
theorem bytes01_walk (v : Value) (xs : List ByteArray) (w : World) (h : StrsIn w v xs) (hx : xs.length ≤ 2000) :
    Calls Try.prog 54 #[v] w fun e w' => e = .returned (.int .i64 (bytesN xs : Nat)) ∧ Below w.heap.size w w' := by
  by_cases c0 : xs = []
  · subst c0
    obtain ⟨p, c, rfl⟩ := h.shape
    clear h
    go_enter Try.func54, Try.ntmps54
    go_wp2_with fail
    go_loop [3, 4] (fun n i => n = .int .i64 0 ∧ i = .int .i64 0) (fun _ i => 0)
    case atStart => exact ⟨rfl, rfl⟩
    case round =>
      obtain ⟨rfl, rfl⟩ := hrel
      go_wp2_with fail
      go_ret
      exact ⟨rfl, Below.refl _ _⟩
  rcases h.row with ⟨rfl, _⟩ | ⟨g, o, c, rfl, hcap, hg, hc⟩
  · exact absurd rfl c0
  clear h c0
  have HC := Lib.hid hc; clear hc
  go_enter Try.func54, Try.ntmps54
  go_wp2_with fail
  go_loopw [3, 4] (fun n i wr => ∃ k m : Nat, k ≤ xs.length ∧ i = .int .i64 k ∧ n = .int .i64 m ∧ m = bytesN (xs.take k) ∧ m ≤ 100000 * k ∧ Below w.heap.size w wr) (fun _ i _ => xs.length - (intOf i).toNat)
  case atStart => exact ⟨0, 0, by omega, rfl, rfl, rfl, by omega, Below.refl _ _⟩
  case round =>
    obtain ⟨k, m, hk, rfl, rfl, hm, hm2, hbel⟩ := hrel
    have HM := Lib.hid hm; clear hm
    by_cases hlt : k < xs.length
    · have hlt' : (k : Int) < xs.length := by omega
      obtain ⟨x, hxk⟩ : ∃ x, xs[k]? = some x := ⟨_, List.getElem?_eq_getElem hlt⟩
      have ck : wr.cell? ⟨g, o + k, none⟩ = some (.string x) := by rw [hbel.cell (by show g < w.heap.size; exact hg)]; exact HC.out k x hxk
      have HX := Lib.hid hxk; clear hxk
      have hk2 : (k : Int) < 2000 := by omega
      by_cases hb : x.size ≤ 100000
      · have e1 : min (x.size : Int) 100000 = (x.size : Int) := by omega
        have HE := Lib.hid e1; clear e1
        have hb' : (x.size : Int) ≤ 100000 := by omega
        go_wp2_with fail
        go_roundw
        case rel =>
          refine ⟨k + 1, m + x.size, by omega, by go_num, ?_, by rw [bytesN_snoc _ _ _ HX.out, ← HM.out]; omega, by omega, hbel⟩
          try rw [HE.out]
          go_num
        case measure => simp [intOf]; omega
      · have e1 : min (x.size : Int) 100000 = 100000 := by omega
        have HE := Lib.hid e1; clear e1
        have hb' : (100000 : Int) < x.size := by omega
        go_wp2_with fail
        go_roundw
        case rel =>
          refine ⟨k + 1, m + 100000, by omega, by go_num, ?_, by rw [bytesN_snoc _ _ _ HX.out, ← HM.out]; omega, by omega, hbel⟩
          try rw [HE.out]
          go_num
        case measure => simp [intOf]; omega
    · obtain rfl : k = xs.length := by omega
      go_wp2_with fail
      go_ret
      refine ⟨?_, hbel⟩
      rw [show bytesN xs = m by rw [HM.out, List.take_length]]
      rfl

set_option maxHeartbeats 1000000 in
theorem join02_walk (v : Value) (xs : List ByteArray) (w : World) (h : StrsIn w v xs) (hx : xs.length ≤ 1073741824) (hn : (catL xs).length ≤ 16777216) :
    Calls Try.prog 55 #[v] w fun e w' => ∃ r, e = .returned (.string r) ∧ Txt r (catL xs) ∧ Below w.heap.size w w' := by
  by_cases c0 : xs = []
  · subst c0
    obtain ⟨p, c, rfl⟩ := h.shape
    clear h
    go_enter Try.func55, Try.ntmps55
    go_wp2_with fail
    go_loop [3, 4] (fun n i => n = .string ⟨#[]⟩ ∧ i = .int .i64 0) (fun _ i => 0)
    case atStart => exact ⟨rfl, rfl⟩
    case round =>
      obtain ⟨rfl, rfl⟩ := hrel
      go_wp2_with fail
      go_ret
      exact ⟨_, rfl, Txt.mk [], Below.refl _ _⟩
  rcases h.row with ⟨rfl, _⟩ | ⟨g, o, c, rfl, hcap, hg, hc⟩
  · exact absurd rfl c0
  clear h c0
  have HC := Lib.hid hc; clear hc
  go_enter Try.func55, Try.ntmps55
  go_wp2_with fail
  go_loopw [3, 4] (fun n i wr => ∃ (k : Nat) (m : ByteArray), k ≤ xs.length ∧ i = .int .i64 k ∧ n = .string m ∧ Txt m (catL (xs.take k)) ∧ Below w.heap.size w wr) (fun _ i _ => xs.length - (intOf i).toNat)
  case atStart => exact ⟨0, ⟨#[]⟩, by omega, rfl, rfl, Txt.mk [], Below.refl _ _⟩
  case round =>
    obtain ⟨k, m, hk, rfl, rfl, tm, hbel⟩ := hrel
    by_cases hlt : k < xs.length
    · have hlt' : (k : Int) < xs.length := by omega
      obtain ⟨x, hxk⟩ : ∃ x, xs[k]? = some x := ⟨_, List.getElem?_eq_getElem hlt⟩
      have ck : wr.cell? ⟨g, o + k, none⟩ = some (.string x) := by rw [hbel.cell (by show g < w.heap.size; exact hg)]; exact HC.out k x hxk
      have h1 := catL_take_le xs (k + 1)
      rw [catL_snoc _ _ _ hxk, List.length_append, ← tm.size, show x.data.toList.length = x.size from rfl] at h1
      have h2 : m.size + x.size ≤ 16777216 := by omega
      have HX := Lib.hid hxk; clear hxk h1
      go_wp2_with fail
      go_roundw
      case rel => exact ⟨k + 1, m ++ x, by omega, by go_num, rfl, (tm.append (Txt.self x)).cast (catL_snoc _ _ _ HX.out).symm, hbel⟩
      case measure => simp [intOf]; omega
    · obtain rfl : k = xs.length := by omega
      go_wp2_with fail
      go_ret
      exact ⟨m, rfl, tm.cast (by rw [List.take_length]), hbel⟩
end Go.Proofs.Ytacoibiafpdoaaa
