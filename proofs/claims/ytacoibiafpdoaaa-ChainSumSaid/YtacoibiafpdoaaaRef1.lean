/- Walks of the documents' functions on numbers (chapter 01): Put, Get, Text. -/
import Derived.Test.YtacoibiafpdoaaaLaw03
import Derived.Test.YtacoibiafpdoaaaEnds
namespace Go.Proofs.Ytacoibiafpdoaaa
open Go Go.RowKit
set_option linter.unusedVariables false

/-- Less than 2^63: hidden, that no unifier reckons with it. -/
structure I64 (n : Int) : Prop where
  lt : n < 9223372036854775808

set_option maxRecDepth 100000 in
set_option maxHeartbeats 1000000 in
theorem rput_walk (n wd : Int) (w : World) (hn : n < 9223372036854775808) :
    Calls Try.prog 98 #[.int .i64 n, .int .i64 wd] w fun e w' => Ends (0 ≤ n ∧ 1 ≤ wd ∧ wd ≤ 8 ∧ n.toNat < 256 ^ wd.toNat) (beBytes wd.toNat n.toNat) 2 e ∧ Below w.heap.size w w' := by
  by_cases c1 : wd < 1
  · go_enter Try.func98, Try.ntmps98
    go_wp2_with fail
    go_ret2
    exact ⟨.inr ⟨by omega, rfl⟩, Below.refl _ _⟩
  by_cases c2 : 8 < wd
  · have d1 : 1 ≤ wd := by omega
    go_enter Try.func98, Try.ntmps98
    go_wp2_with fail
    go_ret2
    exact ⟨.inr ⟨by omega, rfl⟩, Below.refl _ _⟩
  by_cases c3 : n < 0
  · have d1 : 1 ≤ wd := by omega
    have d2 : wd ≤ 8 := by omega
    go_enter Try.func98, Try.ntmps98
    go_wp2_with fail
    go_ret2
    exact ⟨.inr ⟨by omega, rfl⟩, Below.refl _ _⟩
  obtain ⟨m, rfl⟩ : ∃ m : Nat, n = (m : Int) := ⟨n.toNat, by omega⟩
  obtain ⟨d, rfl⟩ : ∃ d : Nat, wd = (d : Int) := ⟨wd.toNat, by omega⟩
  have d1 : (1 : Int) ≤ d := by omega
  have d2 : (d : Int) ≤ 8 := by omega
  have d3 : (0 : Int) ≤ m := by omega
  have HN : I64 (m : Int) := ⟨hn⟩; clear hn
  clear c1 c2 c3
  go_enter Try.func98, Try.ntmps98
  go_wp2_with fail
  go_loopw [0, 6, 7] (fun a o i wr => ∃ (k : Nat) (s : ByteArray), k ≤ d ∧ i = .int .i64 k ∧ a = .int .i64 ((m / 256 ^ k : Nat) : Int) ∧ o = .string s ∧ Txt s (beBytes k m) ∧ Below w.heap.size w wr) (fun a o i _ => d - (intOf i).toNat)
  case atStart => exact ⟨0, ⟨#[]⟩, by omega, rfl, by simp, rfl, Txt.mk [], Below.refl _ _⟩
  case round =>
    obtain ⟨k, s, hk, rfl, rfl, rfl, ts, hbel⟩ := hrel
    obtain ⟨x, Hx⟩ : ∃ x, Hid (x = m / 256 ^ k) := ⟨_, rfl⟩
    rw [← Hx.out]
    have x0 : (0 : Int) ≤ x := by omega
    have x1 : (x : Int) < 9223372036854775808 := by
      have h1 := Nat.div_le_self m (256 ^ k)
      have h2 := HN.lt
      have h3 := Hx.out
      rw [← h3] at h1
      clear h3
      omega
    have ss : s.size ≤ 8 := by rw [ts.size, beBytes_length]; omega
    by_cases hlt : k < d
    · have hlt' : (k : Int) < d := by omega
      obtain ⟨c, Hc⟩ : ∃ c, Hid (c = UInt8.ofNat (x % 256)) := ⟨_, rfl⟩
      have ec : ((x : Int) % 256) = ((c.toNat : Nat) : Int) := by rw [Hc.out]; simp
      have EC := Lib.hid ec; clear ec
      obtain ⟨q, hq, tq⟩ : ∃ q, str [c] = Value.string q ∧ Txt q [c] := ⟨_, rfl, Txt.mk _⟩
      have sq : q.size ≤ 1 := by rw [tq.size]; simp
      have HQ := Lib.hid hq; clear hq
      go_wp2_with (first
        | ((with_reducible refine wpList_slice_new 104 5 1 ?parts [.int .u8 ((x : Int) % 256)] (.int .u8 0) 1 1 (some 26) Try.underlying104 infoByte (by omega) (by omega) ?hgd ?ho ?hd ?hf ?_); (case hgd => rfl); (case ho => rfl); (case hd => rfl); (case hf => kernel_rfl); (intro g w1 l1 B1 e1 z1); (have HB1 : Hid (Blk w1 g (bytesV [c]) 5) := B1.ext (by rw [EC.out]; rfl)); (clear B1))
        | ((with_reducible refine wpList_string_bytes 104 9 5 (.tmp 26) [c] g 0 1 1 (some 27) Try.underlying104 Try.underlying5 Try.underlying9 HB1.out.range (List.length_singleton (a := c)).symm ?hgd ?ho ?hd ?hx ?_); (case hgd => rfl); (case ho => rfl); (case hd => rfl); (case hx => rfl); (rw [HQ.out])))
      go_roundw
      case rel =>
        have y := hbel.size
        refine ⟨k + 1, _, by omega, by go_num, ?_, rfl, ?_, hbel.trans (e1.mono (by omega))⟩
        · rw [show m / 256 ^ (k + 1) = x / 256 by rw [Hx.out, Nat.pow_succ, Nat.div_div_eq_div_mul], Int.natCast_ediv]; rfl
        · refine (tq.append ts).cast ?_
          rw [beBytes_front, Hc.out, Hx.out]; rfl
      case measure => simp [intOf]; omega
    · obtain rfl : k = d := by omega
      by_cases hx : 0 < x
      · have hx' : (0 : Int) < x := by omega
        go_wp2_with fail
        go_ret2
        refine ⟨.inr ⟨?_, rfl⟩, hbel⟩
        rintro ⟨_, _, _, h⟩
        have : x = 0 := by rw [Hx.out]; exact Nat.div_eq_of_lt (by simpa using h)
        omega
      · have hx' : (x : Int) ≤ 0 := by omega
        have hx0 : x = 0 := by omega
        go_wp2_with fail
        go_ret2
        refine ⟨.inl ⟨⟨by omega, by omega, by omega, ?_⟩, s, rfl, ts.cast (by simp)⟩, hbel⟩
        rw [Hx.out] at hx0
        have := (Nat.div_eq_zero_iff (a := m) (b := 256 ^ k)).1 hx0
        rcases this with h | h
        · exact absurd h (Nat.ne_of_gt (Nat.pow_pos (by decide)))
        · simpa using h
end Go.Proofs.Ytacoibiafpdoaaa
