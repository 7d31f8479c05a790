/- Walks of the documents' functions on numbers (chapter 01): Put, Get, Text. Walks of the documents' functions on numbers (chapters 01, 02): Get, turn. Walks of the documents' functions on SHA-256 (chapter 02): Begin, Rounds, Text, Pad. Walk of the documents' step (chapter 02): what a block does to the state. Walks of the documents' Pad and Sum (chapter 02). Walks of the documents' HMAC (chapter 03). -/
import Derived.Test.YtkdplgcffdaoaaaG3
import Derived.Test.YtkdplgcffdaoaaaG1
namespace Go.Proofs.Ytkdplgcffdaoaaa
set_option linter.unusedSimpArgs false
set_option linter.unusedVariables false
open Go Go.RowKit
set_option linter.unusedVariables false

/-- Less than 2^63: hidden, that no unifier reckons with it. -/
structure I64 (n : Int) : Prop where
  lt : n < 9223372036854775808

set_option maxRecDepth 100000 in
set_option maxHeartbeats 1000000 in
theorem rput_walk (n wd : Int) (w : World) (hn : n < 9223372036854775808) :
    Calls Try.prog 63 #[.int .i64 n, .int .i64 wd] w fun e w' => Ends (0 ≤ n ∧ 1 ≤ wd ∧ wd ≤ 8 ∧ n.toNat < 256 ^ wd.toNat) (beBytes wd.toNat n.toNat) 2 e ∧ Below w.heap.size w w' := by
  by_cases c1 : wd < 1
  · go_enter Try.func63, Try.ntmps63
    go_wp2_with fail
    go_ret2
    exact ⟨.inr ⟨by omega, rfl⟩, Below.refl _ _⟩
  by_cases c2 : 8 < wd
  · have d1 : 1 ≤ wd := by omega
    go_enter Try.func63, Try.ntmps63
    go_wp2_with fail
    go_ret2
    exact ⟨.inr ⟨by omega, rfl⟩, Below.refl _ _⟩
  by_cases c3 : n < 0
  · have d1 : 1 ≤ wd := by omega
    have d2 : wd ≤ 8 := by omega
    go_enter Try.func63, Try.ntmps63
    go_wp2_with fail
    go_ret2
    exact ⟨.inr ⟨by omega, rfl⟩, Below.refl _ _⟩
  obtain ⟨m, rfl⟩ : ∃ m : Nat, n = (m : Int) := ⟨n.toNat, by omega⟩
  obtain ⟨d, rfl⟩ : ∃ d : Nat, wd = (d : Int) := ⟨wd.toNat, by omega⟩
  have d1 : (1 : Int) ≤ d := by omega
  have d2 : (d : Int) ≤ 8 := by omega
  have d3 : (0 : Int) ≤ m := by omega
  have HN : I64 (m : Int) := ⟨hn⟩; clear hn
  clear c1 c2 c3
  go_enter Try.func63, Try.ntmps63
  go_wp2_with fail
  go_loopw [0, 6, 7] (fun a o i wr => ∃ (k : Nat) (s : ByteArray), k ≤ d ∧ i = .int .i64 k ∧ a = .int .i64 ((m / 256 ^ k : Nat) : Int) ∧ o = .string s ∧ Txt s (beBytes k m) ∧ Below w.heap.size w wr) (fun a o i _ => d - (intOf i).toNat)
  case atStart => exact ⟨0, ⟨#[]⟩, by omega, rfl, by simp, rfl, Txt.mk [], Below.refl _ _⟩
  case round =>
    obtain ⟨k, s, hk, rfl, rfl, rfl, ts, hbel⟩ := hrel
    obtain ⟨x, Hx⟩ : ∃ x, Hid (x = m / 256 ^ k) := ⟨_, rfl⟩
    rw [← Hx.out]
    have x0 : (0 : Int) ≤ x := by omega
    have x1 : (x : Int) < 9223372036854775808 := by
      have h1 := Nat.div_le_self m (256 ^ k)
      have h2 := HN.lt
      have h3 := Hx.out
      rw [← h3] at h1
      clear h3
      omega
    have ss : s.size ≤ 8 := by rw [ts.size, beBytes_length]; omega
    by_cases hlt : k < d
    · have hlt' : (k : Int) < d := by omega
      obtain ⟨c, Hc⟩ : ∃ c, Hid (c = UInt8.ofNat (x % 256)) := ⟨_, rfl⟩
      have ec : ((x : Int) % 256) = ((c.toNat : Nat) : Int) := by rw [Hc.out]; simp
      have EC := Lib.hid ec; clear ec
      obtain ⟨q, hq, tq⟩ : ∃ q, str [c] = Value.string q ∧ Txt q [c] := ⟨_, rfl, Txt.mk _⟩
      have sq : q.size ≤ 1 := by rw [tq.size]; simp
      have HQ := Lib.hid hq; clear hq
      go_wp2_with (first
        | ((with_reducible refine wpList_slice_new 52 5 1 ?parts [.int .u8 ((x : Int) % 256)] (.int .u8 0) 1 1 (some 26) Try.underlying52 infoByte (by omega) (by omega) ?hgd ?ho ?hd ?hf ?_); (case hgd => rfl); (case ho => rfl); (case hd => rfl); (case hf => kernel_rfl); (intro g w1 l1 B1 e1 z1); (have HB1 : Hid (Blk w1 g (bytesV [c]) 5) := B1.ext (by rw [EC.out]; rfl)); (clear B1))
        | ((with_reducible refine wpList_string_bytes 52 9 5 (.tmp 26) [c] g 0 1 1 (some 27) Try.underlying52 Try.underlying5 Try.underlying9 HB1.out.range (List.length_singleton (a := c)).symm ?hgd ?ho ?hd ?hx ?_); (case hgd => rfl); (case ho => rfl); (case hd => rfl); (case hx => rfl); (rw [HQ.out])))
      go_roundw
      case rel =>
        have y := hbel.size
        refine ⟨k + 1, _, by omega, by go_num, ?_, rfl, ?_, hbel.trans (e1.mono (by omega))⟩
        · rw [show m / 256 ^ (k + 1) = x / 256 by rw [Hx.out, Nat.pow_succ, Nat.div_div_eq_div_mul], Int.natCast_ediv]; rfl
        · refine (tq.append ts).cast ?_
          rw [beBytes_front, Hc.out, Hx.out]; rfl
      case measure => simp [intOf]; omega
    · obtain rfl : k = d := by omega
      by_cases hx : 0 < x
      · have hx' : (0 : Int) < x := by omega
        go_wp2_with fail
        go_ret2
        refine ⟨.inr ⟨?_, rfl⟩, hbel⟩
        rintro ⟨_, _, _, h⟩
        have : x = 0 := by rw [Hx.out]; exact Nat.div_eq_of_lt (by simpa using h)
        omega
      · have hx' : (x : Int) ≤ 0 := by omega
        have hx0 : x = 0 := by omega
        go_wp2_with fail
        go_ret2
        refine ⟨.inl ⟨⟨by omega, by omega, by omega, ?_⟩, s, rfl, ts.cast (by simp)⟩, hbel⟩
        rw [Hx.out] at hx0
        have := (Nat.div_eq_zero_iff (a := m) (b := 256 ^ k)).1 hx0
        rcases this with h | h
        · exact absurd h (Nat.ne_of_gt (Nat.pow_pos (by decide)))
        · simpa using h
end Go.Proofs.Ytkdplgcffdaoaaa
namespace Go.Proofs.Ytkdplgcffdaoaaa
set_option linter.unusedSimpArgs false
set_option linter.unusedVariables false
open Go Go.RowKit
set_option linter.unusedVariables false

/-- The number that bytes are. -/
def beNum (l : List UInt8) : Nat := l.foldl (fun n b => 256 * n + b.toNat) 0
theorem beNum_snoc (l : List UInt8) (b : UInt8) : beNum (l ++ [b]) = 256 * beNum l + b.toNat := by simp [beNum]
theorem beNum_take (l : List UInt8) (k : Nat) (h : k < l.length) : beNum (l.take (k + 1)) = 256 * beNum (l.take k) + l[k].toNat := by
  rw [List.take_succ_eq_append_getElem h, beNum_snoc]
theorem beNum_mono (l : List UInt8) (k : Nat) : beNum (l.take k) ≤ beNum l := by
  by_cases h : k < l.length
  · have : ∀ m, beNum (l.take k) ≤ beNum (l.take (k + m)) := by
      intro m
      induction m with
      | zero => exact Nat.le_refl _
      | succ m ih =>
        by_cases hm : k + m < l.length
        · rw [← Nat.add_assoc, beNum_take _ _ hm]; omega
        · rw [← Nat.add_assoc, List.take_of_length_le (i := k + m + 1) (by omega)]; rw [List.take_of_length_le (i := k + m) (by omega)] at ih; exact ih
    have := this (l.length - k)
    rwa [List.take_of_length_le (i := k + (l.length - k)) (by omega)] at this
  · rw [List.take_of_length_le (by omega)]; exact Nat.le_refl _
theorem beNum_lt (l : List UInt8) : beNum l < 256 ^ l.length := by
  have : ∀ k, k ≤ l.length → beNum (l.take k) < 256 ^ k := by
    intro k hk
    induction k with
    | zero => simp [beNum]
    | succ k ih =>
      have h1 := ih (by omega)
      have h2 := (l[k]'(by omega)).toNat_lt
      rw [beNum_take _ _ (by omega), Nat.pow_succ]
      omega
  have := this l.length (Nat.le_refl _)
  rwa [List.take_length] at this
theorem beNum_four (l : List UInt8) (h : l.length = 4) : beNum l = be32 l 0 := by
  match l, h with
  | [a, b, c, d], _ => simp [beNum, be32]; omega

/-- How Get ends. -/
def GetEnd (l : List UInt8) (e : Ending) : Prop :=
  ((1 ≤ l.length ∧ l.length ≤ 8 ∧ beNum l < 9223372036854775808) ∧ e = .returned (.tuple #[.int .i64 ((beNum l : Nat) : Int), .int .i64 0])) ∨
  (¬ (1 ≤ l.length ∧ l.length ≤ 8 ∧ beNum l < 9223372036854775808) ∧ e = .returned (.tuple #[.int .i64 0, .int .i64 3]))

theorem i64_or_nat (a b : Nat) (ha : a < 9223372036854775808) (hb : b < 9223372036854775808) : bits .or .i64 (a : Int) (b : Int) = ((a ||| b : Nat) : Int) := by
  have hx : a ||| b < 2 ^ 63 := Nat.or_lt_two_pow (by omega) (by omega)
  show IntKind.i64.wrap ((BitVec.ofInt 64 (a : Int) ||| BitVec.ofInt 64 (b : Int)).toNat : Int) = _
  rw [BitVec.toNat_or, ofInt_u64 a (by omega), ofInt_u64 b (by omega), IntKind.wrap_i64]
  omega
theorem i64_xor_nat (a b : Nat) (ha : a < 9223372036854775808) (hb : b < 9223372036854775808) : bits .xor .i64 (a : Int) (b : Int) = ((a ^^^ b : Nat) : Int) := by
  have hx : a ^^^ b < 2 ^ 63 := Nat.xor_lt_two_pow (by omega) (by omega)
  show IntKind.i64.wrap ((BitVec.ofInt 64 (a : Int) ^^^ BitVec.ofInt 64 (b : Int)).toNat : Int) = _
  rw [BitVec.toNat_xor, ofInt_u64 a (by omega), ofInt_u64 b (by omega), IntKind.wrap_i64]
  omega
theorem i64_and_nat (a b : Nat) (ha : a < 9223372036854775808) (hb : b < 9223372036854775808) : bits .and .i64 (a : Int) (b : Int) = ((a &&& b : Nat) : Int) := by
  have hx : a &&& b < 2 ^ 63 := Nat.and_lt_two_pow _ (by omega)
  show IntKind.i64.wrap ((BitVec.ofInt 64 (a : Int) &&& BitVec.ofInt 64 (b : Int)).toNat : Int) = _
  rw [BitVec.toNat_and, ofInt_u64 a (by omega), ofInt_u64 b (by omega), IntKind.wrap_i64]
  omega

theorem turn_num (x k : Nat) (hx : x < 4294967296) (h0 : 0 < k) (h1 : k < 32) :
    (bits BinOp.or IntKind.i64 ((x : Int) / 2 ^ k) (wrap64 ((x : Int) * 2 ^ (32 - k)))).tmod 4294967296 = ((rotr x k : Nat) : Int) := by
  have e1 : (x : Int) * 2 ^ (32 - k) = ((x * 2 ^ (32 - k) : Nat) : Int) := by simp
  have e2 : (x : Int) / 2 ^ k = ((x / 2 ^ k : Nat) : Int) := by simp
  have l0 : (2 : Nat) ^ (32 - k) ≤ 2 ^ 31 := Nat.pow_le_pow_right (by omega) (by omega)
  have l1 : x * 2 ^ (32 - k) < 9223372036854775808 := by
    have : x * 2 ^ (32 - k) ≤ x * 2 ^ 31 := Nat.mul_le_mul_left _ l0
    omega
  have l2 : x / 2 ^ k < 9223372036854775808 := Nat.lt_of_le_of_lt (Nat.div_le_self _ _) (by omega)
  have e3 : wrap64 ((x * 2 ^ (32 - k) : Nat) : Int) = ((x * 2 ^ (32 - k) : Nat) : Int) := IntWalk.wrap64_in _ (by omega)
  rw [e1, e2, e3, i64_or_nat _ _ l2 l1, Int.tmod_eq_emod_of_nonneg (Int.natCast_nonneg _)]
  unfold rotr
  rw [Nat.shiftRight_eq_div_pow, Nat.shiftLeft_eq]
  rfl

end Go.Proofs.Ytkdplgcffdaoaaa
namespace Go.Proofs.Ytkdplgcffdaoaaa
set_option linter.unusedSimpArgs false
set_option linter.unusedVariables false
open Go Go.RowKit
set_option linter.unusedVariables false

def nums64 (l : List Nat) : List Value := l.map (fun n => .int .i64 ((n : Nat) : Int))
theorem nums64_length (l : List Nat) : (nums64 l).length = l.length := by simp [nums64]
theorem nums64_one (l : List Nat) : ∀ v ∈ nums64 l, v.oneCell' = true := by
  intro v hv
  obtain ⟨_, _, rfl⟩ := List.mem_map.1 hv
  rfl
theorem nums64_at (l : List Nat) (i : Nat) (hi : i < l.length) : (nums64 l)[i]? = some (.int .i64 ((l.getD i 0 : Nat) : Int)) := by
  simp [nums64, hi]

/-- Eight numbers, as the documents hold them. -/
def S8.rcells (s : S8) : List Value := [.int .i64 s.a, .int .i64 s.b, .int .i64 s.c, .int .i64 s.d, .int .i64 s.e, .int .i64 s.f, .int .i64 s.g, .int .i64 s.h]
def S8.rval (s : S8) : Value := .agg s.rcells.toArray
theorem S8.rcells_l (s : S8) : s.rcells = nums64 s.l := rfl
theorem S8.rcells_one (s : S8) : ∀ v ∈ s.rcells, v.oneCell' = true := nums64_one s.l

def zeros64 (n : Nat) : List Value := List.replicate n (.int .i64 0)
theorem S8.l_lt {s : S8} (h : s.ok) (k : Nat) : s.l.getD k 0 < 4294967296 := by
  obtain ⟨h1, h2, h3, h4, h5, h6, h7, h8⟩ := h
  match k with
  | 0 => exact h1
  | 1 => exact h2
  | 2 => exact h3
  | 3 => exact h4
  | 4 => exact h5
  | 5 => exact h6
  | 6 => exact h7
  | 7 => exact h8
  | k + 8 => simp [S8.l]

end Go.Proofs.Ytkdplgcffdaoaaa
namespace Go.Proofs.Ytkdplgcffdaoaaa
set_option linter.unusedSimpArgs false
set_option linter.unusedVariables false
open Go Go.RowKit
set_option linter.unusedVariables false

def rwcells (blk : List UInt8) (k : Nat) : List Value := nums64 (wordsTo blk k ++ List.replicate (64 - k) 0)
theorem rwcells_length (blk : List UInt8) (k : Nat) (hk : k ≤ 64) : (rwcells blk k).length = 64 := by simp [rwcells, nums64, wordsTo_length]; omega
theorem rwcells_at (blk : List UInt8) (k i : Nat) (hi : i < k) : (rwcells blk k)[i]? = some (.int .i64 (((wordsTo blk k).getD i 0 : Nat) : Int)) := by
  have hl := wordsTo_length blk k
  simp [rwcells, nums64, List.getElem?_append, hl, hi]
theorem rwcells_zat (blk : List UInt8) (k : Nat) (hk : k < 64) : (rwcells blk k)[k]? = some (.int .i64 0) := by
  have hl := wordsTo_length blk k
  unfold rwcells nums64
  rw [show List.replicate (64 - k) 0 = 0 :: List.replicate (64 - (k + 1)) 0 by rw [← List.replicate_succ]; congr 1; omega]
  simp [hl]
theorem rwcells_set (blk : List UInt8) (k : Nat) (hk : k < 64) : (rwcells blk k).set k (.int .i64 ((nextWord blk (wordsTo blk k) : Nat) : Int)) = rwcells blk (k + 1) := by
  have hl := wordsTo_length blk k
  unfold rwcells nums64
  rw [show List.replicate (64 - k) 0 = 0 :: List.replicate (64 - (k + 1)) 0 by rw [← List.replicate_succ]; congr 1; omega]
  simp only [wordsTo, List.map_append, List.map_cons, List.map_nil, List.append_assoc]
  rw [List.set_append_right _ _ (by simp [hl])]
  simp [hl]
theorem rwcells_zero (blk : List UInt8) : rwcells blk 0 = zeros64 64 := by simp [rwcells, nums64, wordsTo, zeros64]
theorem rwcells_end (blk : List UInt8) : rwcells blk 64 = nums64 (wordsTo blk 64) := by simp [rwcells]

theorem be32_four (l : List UInt8) (k : Nat) : be32 ((l.take (4 * k + 4)).drop (4 * k)) 0 = be32 l k := by
  simp [be32, List.getElem?_drop]

theorem rsg0_num (x : Nat) (hx : x < 4294967296) : bits BinOp.xor IntKind.i64 (bits BinOp.xor IntKind.i64 ((rotr x 7 : Nat) : Int) ((rotr x 18 : Nat) : Int)) (wrap64 ((x : Int) / 8)) = ((sg0 x : Nat) : Int) := by
  have h1 := rotr_lt x 7
  have h2 := rotr_lt x 18
  have h3 := xor_lt32 h1 h2
  have e : wrap64 ((x : Int) / 8) = ((x / 8 : Nat) : Int) := by rw [IntWalk.wrap64_in _ (by omega)]; simp
  rw [e, i64_xor_nat _ _ (by omega) (by omega), i64_xor_nat _ _ (by omega) (by omega)]; rfl
theorem rsg1_num (x : Nat) (hx : x < 4294967296) : bits BinOp.xor IntKind.i64 (bits BinOp.xor IntKind.i64 ((rotr x 17 : Nat) : Int) ((rotr x 19 : Nat) : Int)) (wrap64 ((x : Int) / 1024)) = ((sg1 x : Nat) : Int) := by
  have h1 := rotr_lt x 17
  have h2 := rotr_lt x 19
  have h3 := xor_lt32 h1 h2
  have e : wrap64 ((x : Int) / 1024) = ((x / 1024 : Nat) : Int) := by rw [IntWalk.wrap64_in _ (by omega)]; simp
  rw [e, i64_xor_nat _ _ (by omega) (by omega), i64_xor_nat _ _ (by omega) (by omega)]; rfl

theorem rword_num (a b c d : Nat) (ha : a < 4294967296) (hb : b < 4294967296) (hc : c < 4294967296) (hd : d < 4294967296) :
    (wrap64 (wrap64 (wrap64 ((a : Int) + (b : Int)) + (c : Int)) + (d : Int))).tmod 4294967296 = (((a + b + c + d) % 4294967296 : Nat) : Int) := by
  rw [IntWalk.wrap64_in ((a : Int) + b) (by omega), IntWalk.wrap64_in ((a : Int) + b + c) (by omega), IntWalk.wrap64_in ((a : Int) + b + c + d) (by omega), Int.tmod_eq_emod_of_nonneg (by omega)]
  omega

theorem bg1_num (e : Nat) : bits BinOp.xor IntKind.i64 (bits BinOp.xor IntKind.i64 ((rotr e 6 : Nat) : Int) ((rotr e 11 : Nat) : Int)) ((rotr e 25 : Nat) : Int) = ((bg1 e : Nat) : Int) := by
  have h1 := rotr_lt e 6
  have h2 := rotr_lt e 11
  have h3 := rotr_lt e 25
  have h4 := xor_lt32 h1 h2
  rw [i64_xor_nat _ _ (by omega) (by omega), i64_xor_nat _ _ (by omega) (by omega)]; rfl
theorem bg0_num (e : Nat) : bits BinOp.xor IntKind.i64 (bits BinOp.xor IntKind.i64 ((rotr e 2 : Nat) : Int) ((rotr e 13 : Nat) : Int)) ((rotr e 22 : Nat) : Int) = ((bg0 e : Nat) : Int) := by
  have h1 := rotr_lt e 2
  have h2 := rotr_lt e 13
  have h3 := rotr_lt e 22
  have h4 := xor_lt32 h1 h2
  rw [i64_xor_nat _ _ (by omega) (by omega), i64_xor_nat _ _ (by omega) (by omega)]; rfl
theorem chs_num (e f g : Nat) (he : e < 4294967296) (hf : f < 4294967296) (hg : g < 4294967296) :
    bits BinOp.or IntKind.i64 (bits BinOp.and IntKind.i64 (e : Int) (f : Int)) (bits BinOp.and IntKind.i64 (wrap64 (4294967295 - (e : Int))) (g : Int)) = ((chs e f g : Nat) : Int) := by
  have e1 : wrap64 (4294967295 - (e : Int)) = ((4294967295 - e : Nat) : Int) := by rw [IntWalk.wrap64_in _ (by omega)]; omega
  have h1 := and_lt32 (b := f) he
  have h2 : (4294967295 - e) &&& g < 4294967296 := and_lt32 (by omega)
  rw [e1, i64_and_nat _ _ (by omega) (by omega), i64_and_nat _ _ (by omega) (by omega), i64_or_nat _ _ (by omega) (by omega)]; rfl
theorem rmaj_num (a b c : Nat) (ha : a < 4294967296) (hb : b < 4294967296) (hc : c < 4294967296) :
    bits BinOp.or IntKind.i64 (bits BinOp.or IntKind.i64 (bits BinOp.and IntKind.i64 (a : Int) (b : Int)) (bits BinOp.and IntKind.i64 (a : Int) (c : Int))) (bits BinOp.and IntKind.i64 (b : Int) (c : Int)) = ((maj a b c : Nat) : Int) := by
  have h1 := and_lt32 (b := b) ha
  have h2 := and_lt32 (b := c) ha
  have h3 := and_lt32 (b := c) hb
  have h4 := or_lt32 h1 h2
  rw [i64_and_nat _ _ (by omega) (by omega), i64_and_nat _ _ (by omega) (by omega), i64_and_nat _ _ (by omega) (by omega), i64_or_nat _ _ (by omega) (by omega), i64_or_nat _ _ (by omega) (by omega)]; rfl
theorem rt_num (a b c d e f g h k w : Nat) (he : e < 4294967296) (hf : f < 4294967296) (hg : g < 4294967296) (hh : h < 4294967296) (hk : k < 4294967296) (hw : w < 4294967296) :
    wrap64 (wrap64 (wrap64 (wrap64 ((h : Int) + bits BinOp.xor IntKind.i64 (bits BinOp.xor IntKind.i64 ((rotr e 6 : Nat) : Int) ((rotr e 11 : Nat) : Int)) ((rotr e 25 : Nat) : Int)) +
      bits BinOp.or IntKind.i64 (bits BinOp.and IntKind.i64 (e : Int) (f : Int)) (bits BinOp.and IntKind.i64 (wrap64 (4294967295 - (e : Int))) (g : Int))) + (k : Int)) + (w : Int)) = ((tOf ⟨a, b, c, d, e, f, g, h⟩ k w : Nat) : Int) := by
  have h1 := bg1_lt e
  have h2 := chs_lt (f := f) (g := g) he
  rw [bg1_num, chs_num _ _ _ he hf hg, IntWalk.wrap64_in ((h : Int) + _) (by omega), IntWalk.wrap64_in ((h : Int) + _ + _) (by omega), IntWalk.wrap64_in ((h : Int) + _ + _ + _) (by omega), IntWalk.wrap64_in _ (by omega)]
  simp [tOf]
theorem ru_num (a b c d e f g h : Nat) (ha : a < 4294967296) (hb : b < 4294967296) (hc : c < 4294967296) :
    wrap64 (bits BinOp.xor IntKind.i64 (bits BinOp.xor IntKind.i64 ((rotr a 2 : Nat) : Int) ((rotr a 13 : Nat) : Int)) ((rotr a 22 : Nat) : Int) +
      bits BinOp.or IntKind.i64 (bits BinOp.or IntKind.i64 (bits BinOp.and IntKind.i64 (a : Int) (b : Int)) (bits BinOp.and IntKind.i64 (a : Int) (c : Int))) (bits BinOp.and IntKind.i64 (b : Int) (c : Int))) = ((uOf ⟨a, b, c, d, e, f, g, h⟩ : Nat) : Int) := by
  have h1 := bg0_lt a
  have h2 := maj_lt ha hb (c := c)
  rw [bg0_num, rmaj_num _ _ _ ha hb hc, IntWalk.wrap64_in _ (by omega)]
  simp [uOf]
theorem radd_num (t u : Nat) (ht : t < 1099511627776) (hu : u < 1099511627776) : (wrap64 ((t : Int) + (u : Int))).tmod 4294967296 = (((t + u) % 4294967296 : Nat) : Int) := by
  rw [IntWalk.wrap64_in _ (by omega), Int.tmod_eq_emod_of_nonneg (by omega)]; omega

theorem tOf_lt {s : S8} {k w : Nat} (he : s.e < 4294967296) (hh : s.h < 4294967296) (hk : k < 4294967296) (hw : w < 4294967296) : tOf s k w < 1099511627776 := by
  have h1 := bg1_lt s.e
  have h2 := chs_lt (f := s.f) (g := s.g) he
  unfold tOf; omega
theorem uOf_lt {s : S8} (ha : s.a < 4294967296) (hb : s.b < 4294967296) : uOf s < 1099511627776 := by
  have h1 := bg0_lt s.a
  have h2 := maj_lt ha hb (c := s.c)
  unfold uOf; omega
theorem rmix_all (y x : S8) : nums64 (mix y.l x.l 8) = (y.add x).rcells := by rfl
theorem rmix_set (y x : List Nat) (k : Nat) (hk : k < 8) : (nums64 (mix y x k)).set k (.int .i64 (((y.getD k 0 + x.getD k 0) % 4294967296 : Nat) : Int)) = nums64 (mix y x (k + 1)) := by
  apply List.ext_getElem?
  intro i
  by_cases hi : i < 8
  · rw [List.getElem?_set]
    by_cases e : k = i
    · subst e
      rw [if_pos rfl, if_pos (by simp [nums64_length, mix_length, hi]), nums64_at _ _ (by rw [mix_length]; exact hi), mix_at _ _ _ _ hi, if_pos (by omega)]
    · rw [if_neg e, nums64_at _ _ (by rw [mix_length]; exact hi), nums64_at _ _ (by rw [mix_length]; exact hi), mix_at _ _ _ _ hi, mix_at _ _ _ _ hi]
      by_cases h : i < k
      · rw [if_pos h, if_pos (by omega)]
      · rw [if_neg h, if_neg (by omega)]
  · rw [List.getElem?_eq_none (by simp [nums64_length, mix_length]; omega), List.getElem?_eq_none (by simp [nums64_length, mix_length]; omega)]

theorem roundK_lt (k : Nat) : roundK.getD k 0 < 4294967296 := by
  by_cases h : k < 64
  · have : ∀ i, i < 64 → roundK.getD i 0 < 4294967296 := by decide
    exact this k h
  · rw [List.getD_eq_getElem?_getD, List.getElem?_eq_none (by show 64 ≤ k; omega)]; decide

/-- A number of 32 bits: hidden, that no unifier reckons with it. -/
structure Lt32 (n : Nat) : Prop where
  lt : n < 4294967296

end Go.Proofs.Ytkdplgcffdaoaaa
namespace Go.Proofs.Ytkdplgcffdaoaaa
set_option linter.unusedSimpArgs false
set_option linter.unusedVariables false
open Go Go.RowKit
set_option linter.unusedVariables false

theorem wpStill_load_blk {P : Program} {ops : Array Oper} {rest : List Oper} {o : Oper} {a : Act} {w : World} {Q : Act → Prop}
    (ty : TypeId) (x : Operand) (b : Nat) (cs : List Value) (t : TypeId) (d : TypeDesc) (hb : Blk w b cs t)
    (hu : P.underlying ty = some d) (hd : d.isRow = true) (hi : (P.info? ty).map (·.size) = some cs.length)
    (hgd : o.guard = none) (ho : o.op = .load ty x) (hx : a.eval x = .pointer (some ⟨b, 0, none⟩))
    (h : wpStill P ops w Q rest (a.put o.dst (.agg cs.toArray))) : wpStill P ops w Q (o :: rest) a := by
  refine wpStill_step (fun K hK => ?_)
  have hw : Region.wanted o (yielded ops a.tmps) = true := by simp [Region.wanted, hgd]
  rw [if_pos hw]
  unfold Oper.still
  have e : (execOp a.eval o).run P w = .ok (.value (.agg cs.toArray)) w := by
    unfold execOp
    simp only [ho, hx, Instr.loadAt, Instr.sureAddr, Sem.run_bind, Sem.run_pure, Result.andThen_ok, run_loadVar_mid w b 0 ty cs d hb.range hu hd hi]
  rw [e, Oper.stillUpon_value]
  exact hK _ h

theorem rpad_tail (n k : Nat) (h : k ≤ 63 - (n + 8) % 64) : ((n : Int) + (1 + (k : Int))) % 64 = 56 ↔ k = 63 - (n + 8) % 64 := by omega

end Go.Proofs.Ytkdplgcffdaoaaa
namespace Go.Proofs.Ytkdplgcffdaoaaa
set_option linter.unusedSimpArgs false
set_option linter.unusedVariables false
open Go Go.RowKit
set_option linter.unusedVariables false

end Go.Proofs.Ytkdplgcffdaoaaa
