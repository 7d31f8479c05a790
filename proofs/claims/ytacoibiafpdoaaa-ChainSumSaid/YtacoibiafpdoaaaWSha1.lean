/- Walks of the small functions of package sha: turning a number, reading one, the constants. -/
import Derived.Test.YtacoibiafpdoaaaProg
import Derived.Test.YtacoibiafpdoaaaSha
import Derived.ProofKit
import Derived.Handy
import Derived.Deep.QuietTactic
import Derived.BigQuiet
namespace Go.Proofs.Ytacoibiafpdoaaa
open Go Go.RowKit
set_option linter.unusedVariables false

/-- Eight numbers of 32 bits, as one value. -/
def S8.val (s : S8) : Value :=
  .agg #[.int .u32 s.a, .int .u32 s.b, .int .u32 s.c, .int .u32 s.d, .int .u32 s.e, .int .u32 s.f, .int .u32 s.g, .int .u32 s.h]

theorem rotl_num (x k : Nat) (hx : x < 4294967296) (h0 : 0 < k) (h1 : k < 32) :
    bits BinOp.or IntKind.u32 ((x : Int) * 2 ^ (32 - k) % 4294967296) ((x : Int) / 2 ^ k) = ((rotr x k : Nat) : Int) := by
  have e1 : (x : Int) * 2 ^ (32 - k) % 4294967296 = ((x * 2 ^ (32 - k) % 4294967296 : Nat) : Int) := by simp
  have e2 : (x : Int) / 2 ^ k = ((x / 2 ^ k : Nat) : Int) := by simp
  have l1 : x * 2 ^ (32 - k) % 4294967296 < 4294967296 := Nat.mod_lt _ (by decide)
  have l2 : x / 2 ^ k < 4294967296 := Nat.lt_of_le_of_lt (Nat.div_le_self _ _) hx
  rw [e1, e2, u32_or_nat _ _ l1 l2]
  unfold rotr
  rw [Nat.shiftRight_eq_div_pow, Nat.shiftLeft_eq]
  congr 1
  apply Nat.eq_of_testBit_eq
  intro i
  rw [show (4294967296 : Nat) = 2 ^ 32 from rfl, Nat.testBit_or, Nat.testBit_mod_two_pow, Nat.testBit_mod_two_pow, Nat.testBit_or]
  by_cases hi : i < 32
  · simp [hi, Bool.or_comm]
  · have : (x / 2 ^ k).testBit i = false :=
      Nat.testBit_lt_two_pow (Nat.lt_of_lt_of_le l2 (Nat.pow_le_pow_right (n := 2) (by omega) (by omega : 32 ≤ i)))
    simp [hi, this]

theorem neg_and31 (k : Int) (h0 : 0 < k) (h1 : k < 32) : bits BinOp.and IntKind.u64 (IntKind.u64.wrap (-k)) 31 = 32 - k := by
  have hw : IntKind.u64.wrap (-k) = ((18446744073709551616 - k.toNat : Nat) : Int) := by
    rw [IntKind.wrap_u64]; omega
  have := u64_and_nat (18446744073709551616 - k.toNat) 31 (by omega) (by decide)
  rw [hw]
  refine this.trans ?_
  rw [show (31 : Nat) = 2 ^ 5 - 1 from rfl, Nat.and_two_pow_sub_one_eq_mod]
  omega

theorem rotl_walk (x : Nat) (k : Int) (w : World) (hx : x < 4294967296) (h0 : 0 < k) (h1 : k < 32) :
    Calls Try.prog 162 #[.int .u32 x, .int .i64 (-k)] w fun e w' => e = .returned (.int .u32 ((rotr x k.toNat : Nat) : Int)) ∧ w = w' := by
  have hb := neg_and31 k h0 h1
  have hs : (32 : Int) - k ≤ 31 := by omega
  have hs0 : (0 : Int) ≤ 32 - k := by omega
  have hp : (x : Int) < 4294967296 := by omega
  have hfin : Hid (bits BinOp.or IntKind.u32 ((x : Int) * 2 ^ (32 - k).toNat % 4294967296) ((x : Int) / 2 ^ (32 - (32 - k)).toNat) = ((rotr x k.toNat : Nat) : Int)) := by
    have := rotl_num x k.toNat hx (by omega) (by omega)
    rw [show (32 - k).toNat = 32 - k.toNat by omega, show (32 - (32 - k)).toNat = k.toNat by omega]
    exact this
  go_enter Try.func162, Try.ntmps162
  go_wp2
  go_ret
  refine ⟨?_, rfl⟩
  show Ending.returned (Value.int IntKind.u32 _) = _
  rw [← hfin.out]

theorem rotr3_num (a b c : Nat) (ha : a < 4294967296) (hb : b < 4294967296) (hc : c < 4294967296) :
    bits BinOp.xor IntKind.u32 (bits BinOp.xor IntKind.u32 (a : Int) (b : Int)) (c : Int) = ((a ^^^ b ^^^ c : Nat) : Int) := by
  rw [u32_xor_nat _ _ ha hb, u32_xor_nat _ _ (xor_lt32 ha hb) hc]

theorem three_rot (x : Nat) (a b c : Int) (w : World) (hx : x < 4294967296) (ha : 0 < a) (ha' : a < 32) (hb : 0 < b) (hb' : b < 32) (hc : 0 < c) (hc' : c < 32) :
    Calls Try.prog 152 #[.int .u32 x, .int .i64 a, .int .i64 b, .int .i64 c, .bool false] w fun e w' => e = .returned (.int .u32 ((rotr x a.toNat ^^^ rotr x b.toNat ^^^ rotr x c.toNat : Nat) : Int)) ∧ w = w' := by
  have hf : Hid _ := rotr3_num (rotr x a.toNat) (rotr x b.toNat) (rotr x c.toNat) (rotr_lt _ _) (rotr_lt _ _) (rotr_lt _ _)
  go_enter Try.func152, Try.ntmps152
  go_wp2_with fail
  refine (rotl_walk x c _ hx hc hc').mono ?_; rintro e w' ⟨rfl, rfl⟩
  go_wp2_with fail
  refine (rotl_walk x a _ hx ha ha').mono ?_; rintro e w' ⟨rfl, rfl⟩
  go_wp2_with fail
  refine (rotl_walk x b _ hx hb hb').mono ?_; rintro e w' ⟨rfl, rfl⟩
  go_wp2_with fail
  go_ret
  refine ⟨?_, rfl⟩
  show Ending.returned (Value.int IntKind.u32 _) = _
  rw [← hf.out]

theorem three_shift (x : Nat) (a b c : Int) (w : World) (hx : x < 4294967296) (ha : 0 < a) (ha' : a < 32) (hb : 0 < b) (hb' : b < 32) (hc : 0 < c) (hc' : c < 32) :
    Calls Try.prog 152 #[.int .u32 x, .int .i64 a, .int .i64 b, .int .i64 c, .bool true] w fun e w' => e = .returned (.int .u32 ((rotr x a.toNat ^^^ rotr x b.toNat ^^^ x / 2 ^ c.toNat : Nat) : Int)) ∧ w = w' := by
  have hf : Hid (bits BinOp.xor IntKind.u32 (bits BinOp.xor IntKind.u32 ((rotr x a.toNat : Nat) : Int) ((rotr x b.toNat : Nat) : Int)) ((x : Int) / 2 ^ c.toNat) = ((rotr x a.toNat ^^^ rotr x b.toNat ^^^ x / 2 ^ c.toNat : Nat) : Int)) := by
    have := rotr3_num (rotr x a.toNat) (rotr x b.toNat) (x / 2 ^ c.toNat) (rotr_lt _ _) (rotr_lt _ _) (Nat.lt_of_le_of_lt (Nat.div_le_self _ _) hx)
    rw [show (x : Int) / 2 ^ c.toNat = ((x / 2 ^ c.toNat : Nat) : Int) by simp]
    exact this
  go_enter Try.func152, Try.ntmps152
  go_wp2_with fail
  refine (rotl_walk x c _ hx hc hc').mono ?_; rintro e w' ⟨rfl, rfl⟩
  go_wp2_with fail
  refine (rotl_walk x a _ hx ha ha').mono ?_; rintro e w' ⟨rfl, rfl⟩
  go_wp2_with fail
  refine (rotl_walk x b _ hx hb hb').mono ?_; rintro e w' ⟨rfl, rfl⟩
  go_wp2_with fail
  go_ret
  refine ⟨?_, rfl⟩
  show Ending.returned (Value.int IntKind.u32 _) = _
  rw [← hf.out]

theorem three_bg1 (x : Nat) (w : World) (hx : x < 4294967296) :
    Calls Try.prog 152 #[.int .u32 x, .int .i64 6, .int .i64 11, .int .i64 25, .bool false] w fun e w' => e = .returned (.int .u32 (bg1 x : Nat)) ∧ w = w' :=
  three_rot x 6 11 25 w hx (by decide) (by decide) (by decide) (by decide) (by decide) (by decide)
theorem three_bg0 (x : Nat) (w : World) (hx : x < 4294967296) :
    Calls Try.prog 152 #[.int .u32 x, .int .i64 2, .int .i64 13, .int .i64 22, .bool false] w fun e w' => e = .returned (.int .u32 (bg0 x : Nat)) ∧ w = w' :=
  three_rot x 2 13 22 w hx (by decide) (by decide) (by decide) (by decide) (by decide) (by decide)
theorem three_sg0 (x : Nat) (w : World) (hx : x < 4294967296) :
    Calls Try.prog 152 #[.int .u32 x, .int .i64 7, .int .i64 18, .int .i64 3, .bool true] w fun e w' => e = .returned (.int .u32 (sg0 x : Nat)) ∧ w = w' :=
  three_shift x 7 18 3 w hx (by decide) (by decide) (by decide) (by decide) (by decide) (by decide)
theorem three_sg1 (x : Nat) (w : World) (hx : x < 4294967296) :
    Calls Try.prog 152 #[.int .u32 x, .int .i64 17, .int .i64 19, .int .i64 10, .bool true] w fun e w' => e = .returned (.int .u32 (sg1 x : Nat)) ∧ w = w' :=
  three_shift x 17 19 10 w hx (by decide) (by decide) (by decide) (by decide) (by decide) (by decide)

theorem getD_data (s : ByteArray) (i : Nat) (h : i < s.size) : s.data.toList.getD i 0 = s[i] := by
  have h' : i < s.data.toList.length := by simpa using h
  simp [List.getD_eq_getElem?_getD, List.getElem?_eq_getElem h']
  rfl

theorem number_num (a b c d : Nat) (ha : a < 256) (hb : b < 256) (hc : c < 256) (hd : d < 256) :
    bits BinOp.or IntKind.u32 (bits BinOp.or IntKind.u32 (bits BinOp.or IntKind.u32 ((a : Int) % 4294967296 * 16777216 % 4294967296) ((b : Int) % 4294967296 * 65536 % 4294967296)) ((c : Int) % 4294967296 * 256 % 4294967296)) ((d : Int) % 4294967296)
      = ((a * 16777216 + b * 65536 + c * 256 + d : Nat) : Int) := by
  have e1 : (a : Int) % 4294967296 * 16777216 % 4294967296 = ((a * 16777216 : Nat) : Int) := by omega
  have e2 : (b : Int) % 4294967296 * 65536 % 4294967296 = ((b * 65536 : Nat) : Int) := by omega
  have e3 : (c : Int) % 4294967296 * 256 % 4294967296 = ((c * 256 : Nat) : Int) := by omega
  have e4 : (d : Int) % 4294967296 = (d : Int) := by omega
  have j1 := nat_join 24 (a * 16777216) (b * 65536) (by omega) (by omega)
  have j2 := nat_join 16 (a * 16777216 + b * 65536) (c * 256) (by omega) (by omega)
  have j3 := nat_join 8 (a * 16777216 + b * 65536 + c * 256) d (by omega) (by omega)
  rw [e1, e2, e3, e4, u32_or_nat _ _ (by omega) (by omega), j1, u32_or_nat _ _ (by omega) (by omega), j2, u32_or_nat _ _ (by omega) (by omega), j3]

theorem number_walk (s : ByteArray) (w : World) (h : 4 ≤ s.size) :
    Calls Try.prog 161 #[.string s] w fun e w' => e = .returned (.int .u32 (be32 s.data.toList 0 : Nat)) ∧ ∃ n, w' = w.drewN n := by
  have h0 : 0 < s.size := by omega
  have h1 : 1 < s.size := by omega
  have h2 : 2 < s.size := by omega
  have h3 : 3 < s.size := by omega
  have h1' : (1 : Int) < s.size := by omega
  have h2' : (2 : Int) < s.size := by omega
  have h3' : (3 : Int) < s.size := by omega
  have hf : Hid _ := number_num _ _ _ _ s[0].toNat_lt s[1].toNat_lt s[2].toNat_lt s[3].toNat_lt
  have hb : Hid (be32 s.data.toList 0 = s[0].toNat * 16777216 + s[1].toNat * 65536 + s[2].toNat * 256 + s[3].toNat) := by
    show be32 s.data.toList 0 = _
    unfold be32
    rw [getD_data s _ h0, getD_data s _ h1, getD_data s _ h2, getD_data s _ h3]
  go_enter Try.func161, Try.ntmps161
  go_wp2
  go_quiet (fail)
  go_wp2
  go_ret
  refine ⟨?_, _, rfl⟩
  show Ending.returned (Value.int IntKind.u32 _) = _
  rw [hb.out, ← hf.out]

theorem first_walk (w : World) :
    Calls Try.prog 127 #[] w fun e w' => e = .returned S8.first.val ∧ Below w.heap.size w w' := by
  go_enter Try.func127, Try.ntmps127
  go_wp2
  exact bodyPost_ret (v := S8.first.val) (by simp [results, Try.results127, go_sem]; rfl) rfl ⟨rfl, ((Below.refl _ _).alloc (Nat.le_refl _) _)⟩
end Go.Proofs.Ytacoibiafpdoaaa
