/- Walks of package octet. Walks of the small functions of package sha: turning a number, reading one, the constants. Walk of sha.words: a block's sixty-four words. Walks of sha.constants and of the method turned: what a block does to the state. Walk of the method turned of package sha: what a block does to the state. Walks of package sha: the text of a state, what is padded, a new hash. Walks of package sha: a hash, what is put to it, its sum. Walks of package sha: the sum of a hash, and of texts one behind the other. -/
import Derived.Test.YtkdplgcffdaoaaaProg
import Derived.Test.YtkdplgcffdaoaaaG1
import Derived.ProofKit
import Derived.Handy
import Derived.Deep.QuietTactic
import Derived.BigQuiet
import Derived.Lib.Hide
import Derived.Outline
import Derived.StillTailTactics
import Derived.Deep.WholeRow
import Derived.Deep.RegionWith
import Derived.Deep.RegionHeld3
import Derived.Deep.RegionLaw
namespace Go.Proofs.Ytkdplgcffdaoaaa
set_option linter.unusedSimpArgs false
set_option linter.unusedVariables false
open Go Go.RowKit
set_option linter.unusedVariables false

theorem infoByte : (Try.prog.info? 5).map (fun i => (i.zero, i.size, i.bytes)) = some (some (.int .u8 0), 1, 1) := by kernel_rfl

theorem beBytes_front (k n : Nat) : beBytes (k + 1) n = UInt8.ofNat (n / 256 ^ k % 256) :: beBytes k n := by
  induction k generalizing n with
  | zero => simp [beBytes]
  | succ k ih =>
    rw [show beBytes (k + 1 + 1) n = beBytes (k + 1) (n / 256) ++ [UInt8.ofNat (n % 256)] from rfl, ih]
    simp only [List.cons_append, Nat.div_div_eq_div_mul]
    rw [show 256 * 256 ^ k = 256 ^ (k + 1) by rw [Nat.pow_succ]; omega]
    rfl

/-- What of a number's bytes is there behind k rounds. -/
def putTo (n wd k : Nat) : List UInt8 := List.replicate (wd - k) 0 ++ beBytes k n
theorem putTo_length (n wd k : Nat) (h : k ≤ wd) : (putTo n wd k).length = wd := by simp [putTo, beBytes_length]; omega
theorem putTo_set (n wd k : Nat) (h : k < wd) : (putTo n wd k).set (wd - 1 - k) (UInt8.ofNat (n / 256 ^ k % 256)) = putTo n wd (k + 1) := by
  unfold putTo
  rw [show List.replicate (wd - k) (0 : UInt8) = List.replicate (wd - (k + 1)) 0 ++ [0] by rw [← List.replicate_succ']; congr 1; omega]
  rw [List.append_assoc, List.set_append_right _ _ (by simp; omega), beBytes_front]
  simp [show wd - 1 - k - (wd - (k + 1)) = 0 by omega]

theorem div_zero_of (n wd : Nat) (h2 : wd ≤ 8) (hn : n < 9223372036854775808) (hf : wd < 8 → n < 256 ^ wd) : (n : Int) / 2 ^ (8 * wd) ≤ 0 := by
  have h : n < 2 ^ (8 * wd) := by
    by_cases h8 : wd < 8
    · have := hf h8
      rwa [show (256 : Nat) = 2 ^ 8 from rfl, ← Nat.pow_mul] at this
    · obtain rfl : wd = 8 := by omega
      exact Nat.lt_of_lt_of_le hn (by decide)
  have : n / 2 ^ (8 * wd) = 0 := Nat.div_eq_of_lt h
  have e : (n : Int) / 2 ^ (8 * wd) = ((n / 2 ^ (8 * wd) : Nat) : Int) := by simp
  rw [e, this]; exact Int.le_refl _

theorem byte_num (n k : Nat) : (n : Int) / 2 ^ (8 * k) % 256 = (((UInt8.ofNat (n / 256 ^ k % 256)).toNat : Nat) : Int) := by
  have e : (n : Int) / 2 ^ (8 * k) % 256 = ((n / 2 ^ (8 * k) % 256 : Nat) : Int) := by simp
  rw [e, Nat.pow_mul]
  simp

set_option maxRecDepth 100000 in
set_option maxHeartbeats 1000000 in
theorem oput_ok (n wd : Nat) (w : World) (h1 : 1 ≤ wd) (h2 : wd ≤ 8) (hn : n < 9223372036854775808) (hf : wd < 8 → n < 256 ^ wd) :
    Calls Try.prog 57 #[.int .i64 n, .int .i64 wd] w fun e w' => e = .returned (.tuple #[str (beBytes wd n), .int .i64 0]) ∧ Below w.heap.size w w' := by
  have e1 : (1 : Int) ≤ wd := by omega
  have e2 : (wd : Int) ≤ 8 := by omega
  have e3 : (n : Int) ≤ 9223372036854775807 := by omega
  have hq := div_zero_of n wd h2 hn hf
  clear hf hn
  by_cases h8 : (wd : Int) < 8
  all_goals
    go_enter Try.func57, Try.ntmps57
    go_wp2_with (first
      | ((with_reducible refine wpList_make_bytes 52 5 (.tmp 29) (.tmp 29) wd (some 30) (wd : Int) Try.underlying52 infoByte (by omega) rfl ?hgd ?ho ?hd ?hx ?hy ?_); (case hgd => rfl); (case ho => rfl); (case hd => rfl); (case hx => rfl); (case hy => rfl); (intro g w1 l1 B1 e1' z1)))
    have HB := Lib.hid B1; clear B1
    go_loopw [32] (fun i wr => ∃ k : Nat, k ≤ wd ∧ i = .int .i64 k ∧ Blk wr g (bytesV (putTo n wd k)) 5 ∧ Below w.heap.size w wr) (fun i _ => wd - (intOf i).toNat)
    case atStart => exact ⟨0, by omega, rfl, HB.out.ext (by simp [putTo, beBytes]), e1'.mono l1⟩
    case round =>
      clear HB e1' z1
      obtain ⟨k, hk, rfl, hblk, hbel⟩ := hrel
      by_cases hlt : k < wd
      · have hlt' : (k : Int) < wd := by omega
        have hck := hblk.cell (bytesV_at _ (wd - 1 - k) (by rw [putTo_length _ _ _ hk]; omega))
        have hcf := hblk.free (wd - 1 - k)
        have HB := Lib.hid hblk; clear hblk
        go_wp2_with fail
        go_roundw
        case rel =>
          refine ⟨k + 1, by omega, by go_num, ?_, hbel.setCell (by show w.heap.size ≤ g; omega) _⟩
          refine (HB.out.set _ _).ext ?_
          rw [← putTo_set _ _ _ hlt, ← bytesV_set]
          congr 2
          exact byte_num n k
        case measure => simp [intOf]; omega
      · obtain rfl : k = wd := by omega
        have HB := Lib.hid hblk; clear hblk
        go_wp2_with (first
          | ((with_reducible refine wpList_string_bytes 52 9 5 (.tmp 47) (putTo n k k) g 0 k k (some 48) Try.underlying52 Try.underlying5 Try.underlying9 HB.out.range (by rw [putTo_length _ _ _ (Nat.le_refl _)]) ?hgd ?ho ?hd ?hx ?_); (case hgd => rfl); (case ho => rfl); (case hd => rfl); (case hx => rfl)))
        go_ret2
        refine ⟨?_, hbel⟩
        have ef : putTo n k k = beBytes k n := by simp [putTo]
        rw [← ef]
        rfl

/-- Put, where it may be: the text by its bytes. -/
theorem oput (n wd : Nat) (w : World) (h1 : 1 ≤ wd) (h2 : wd ≤ 8) (hn : n < 9223372036854775808) (hf : wd < 8 → n < 256 ^ wd) :
    Calls Try.prog 57 #[.int .i64 n, .int .i64 wd] w fun e w' => ∃ r, e = .returned (.tuple #[.string r, .int .i64 0]) ∧ Txt r (beBytes wd n) ∧ Below w.heap.size w w' :=
  (oput_ok n wd w h1 h2 hn hf).mono fun _ _ ⟨a, b⟩ => ⟨_, a, Txt.mk _, b⟩
end Go.Proofs.Ytkdplgcffdaoaaa
namespace Go.Proofs.Ytkdplgcffdaoaaa
set_option linter.unusedSimpArgs false
set_option linter.unusedVariables false
open Go Go.RowKit
set_option linter.unusedVariables false

/-- Eight numbers of 32 bits, as one value. -/
def S8.val (s : S8) : Value :=
  .agg #[.int .u32 s.a, .int .u32 s.b, .int .u32 s.c, .int .u32 s.d, .int .u32 s.e, .int .u32 s.f, .int .u32 s.g, .int .u32 s.h]

theorem rotl_num (x k : Nat) (hx : x < 4294967296) (h0 : 0 < k) (h1 : k < 32) :
    bits BinOp.or IntKind.u32 ((x : Int) * 2 ^ (32 - k) % 4294967296) ((x : Int) / 2 ^ k) = ((rotr x k : Nat) : Int) := by
  have e1 : (x : Int) * 2 ^ (32 - k) % 4294967296 = ((x * 2 ^ (32 - k) % 4294967296 : Nat) : Int) := by simp
  have e2 : (x : Int) / 2 ^ k = ((x / 2 ^ k : Nat) : Int) := by simp
  have l1 : x * 2 ^ (32 - k) % 4294967296 < 4294967296 := Nat.mod_lt _ (by decide)
  have l2 : x / 2 ^ k < 4294967296 := Nat.lt_of_le_of_lt (Nat.div_le_self _ _) hx
  rw [e1, e2, u32_or_nat _ _ l1 l2]
  unfold rotr
  rw [Nat.shiftRight_eq_div_pow, Nat.shiftLeft_eq]
  congr 1
  apply Nat.eq_of_testBit_eq
  intro i
  rw [show (4294967296 : Nat) = 2 ^ 32 from rfl, Nat.testBit_or, Nat.testBit_mod_two_pow, Nat.testBit_mod_two_pow, Nat.testBit_or]
  by_cases hi : i < 32
  · simp [hi, Bool.or_comm]
  · have : (x / 2 ^ k).testBit i = false :=
      Nat.testBit_lt_two_pow (Nat.lt_of_lt_of_le l2 (Nat.pow_le_pow_right (n := 2) (by omega) (by omega : 32 ≤ i)))
    simp [hi, this]

theorem neg_and31 (k : Int) (h0 : 0 < k) (h1 : k < 32) : bits BinOp.and IntKind.u64 (IntKind.u64.wrap (-k)) 31 = 32 - k := by
  have hw : IntKind.u64.wrap (-k) = ((18446744073709551616 - k.toNat : Nat) : Int) := by
    rw [IntKind.wrap_u64]; omega
  have := u64_and_nat (18446744073709551616 - k.toNat) 31 (by omega) (by decide)
  rw [hw]
  refine this.trans ?_
  rw [show (31 : Nat) = 2 ^ 5 - 1 from rfl, Nat.and_two_pow_sub_one_eq_mod]
  omega

theorem rotr3_num (a b c : Nat) (ha : a < 4294967296) (hb : b < 4294967296) (hc : c < 4294967296) :
    bits BinOp.xor IntKind.u32 (bits BinOp.xor IntKind.u32 (a : Int) (b : Int)) (c : Int) = ((a ^^^ b ^^^ c : Nat) : Int) := by
  rw [u32_xor_nat _ _ ha hb, u32_xor_nat _ _ (xor_lt32 ha hb) hc]

theorem getD_data (s : ByteArray) (i : Nat) (h : i < s.size) : s.data.toList.getD i 0 = s[i] := by
  have h' : i < s.data.toList.length := by simpa using h
  simp [List.getD_eq_getElem?_getD, List.getElem?_eq_getElem h']
  rfl

theorem number_num (a b c d : Nat) (ha : a < 256) (hb : b < 256) (hc : c < 256) (hd : d < 256) :
    bits BinOp.or IntKind.u32 (bits BinOp.or IntKind.u32 (bits BinOp.or IntKind.u32 ((a : Int) % 4294967296 * 16777216 % 4294967296) ((b : Int) % 4294967296 * 65536 % 4294967296)) ((c : Int) % 4294967296 * 256 % 4294967296)) ((d : Int) % 4294967296)
      = ((a * 16777216 + b * 65536 + c * 256 + d : Nat) : Int) := by
  have e1 : (a : Int) % 4294967296 * 16777216 % 4294967296 = ((a * 16777216 : Nat) : Int) := by omega
  have e2 : (b : Int) % 4294967296 * 65536 % 4294967296 = ((b * 65536 : Nat) : Int) := by omega
  have e3 : (c : Int) % 4294967296 * 256 % 4294967296 = ((c * 256 : Nat) : Int) := by omega
  have e4 : (d : Int) % 4294967296 = (d : Int) := by omega
  have j1 := nat_join 24 (a * 16777216) (b * 65536) (by omega) (by omega)
  have j2 := nat_join 16 (a * 16777216 + b * 65536) (c * 256) (by omega) (by omega)
  have j3 := nat_join 8 (a * 16777216 + b * 65536 + c * 256) d (by omega) (by omega)
  rw [e1, e2, e3, e4, u32_or_nat _ _ (by omega) (by omega), j1, u32_or_nat _ _ (by omega) (by omega), j2, u32_or_nat _ _ (by omega) (by omega), j3]

end Go.Proofs.Ytkdplgcffdaoaaa
namespace Go.Proofs.Ytkdplgcffdaoaaa
set_option linter.unusedSimpArgs false
set_option linter.unusedVariables false
open Go Go.RowKit
set_option linter.unusedVariables false

def nums32 (l : List Nat) : List Value := l.map (fun n => .int .u32 ((n : Nat) : Int))
theorem nums32_length (l : List Nat) : (nums32 l).length = l.length := by simp [nums32]
theorem nums32_one (l : List Nat) : ∀ v ∈ nums32 l, v.oneCell' = true := by
  intro v hv
  obtain ⟨_, _, rfl⟩ := List.mem_map.1 hv
  rfl
theorem nums32_at (l : List Nat) (i : Nat) (hi : i < l.length) : (nums32 l)[i]? = some (.int .u32 ((l.getD i 0 : Nat) : Int)) := by
  simp [nums32, hi]

def wcells (blk : List UInt8) (k : Nat) : List Value := nums32 (wordsTo blk k ++ List.replicate (64 - k) 0)
theorem wcells_length (blk : List UInt8) (k : Nat) (hk : k ≤ 64) : (wcells blk k).length = 64 := by simp [wcells, nums32, wordsTo_length]; omega
theorem wcells_at (blk : List UInt8) (k i : Nat) (hi : i < k) : (wcells blk k)[i]? = some (.int .u32 (((wordsTo blk k).getD i 0 : Nat) : Int)) := by
  have hl := wordsTo_length blk k
  simp [wcells, nums32, List.getElem?_append, hl, hi]
theorem wcells_zat (blk : List UInt8) (k : Nat) (hk : k < 64) : (wcells blk k)[k]? = some (.int .u32 0) := by
  have hl := wordsTo_length blk k
  unfold wcells nums32
  rw [show List.replicate (64 - k) 0 = 0 :: List.replicate (64 - (k + 1)) 0 by rw [← List.replicate_succ]; congr 1; omega]
  simp [hl]
theorem wcells_set (blk : List UInt8) (k : Nat) (hk : k < 64) : (wcells blk k).set k (.int .u32 ((nextWord blk (wordsTo blk k) : Nat) : Int)) = wcells blk (k + 1) := by
  have hl := wordsTo_length blk k
  unfold wcells nums32
  rw [show List.replicate (64 - k) 0 = 0 :: List.replicate (64 - (k + 1)) 0 by rw [← List.replicate_succ]; congr 1; omega]
  simp only [wordsTo, List.map_append, List.map_cons, List.map_nil, List.append_assoc]
  rw [List.set_append_right _ _ (by simp [hl])]
  simp [hl]
theorem wcells_zero (blk : List UInt8) : wcells blk 0 = List.replicate 64 (.int .u32 0) := by simp [wcells, nums32, wordsTo]
theorem wcells_end (blk : List UInt8) : wcells blk 64 = nums32 (wordsTo blk 64) := by simp [wcells]

theorem nextWord_lo (l : List UInt8) (k : Nat) (h : k < 16) : nextWord l (wordsTo l k) = be32 l k := by
  unfold nextWord; rw [wordsTo_length, if_pos h]
theorem nextWord_hi (l : List UInt8) (k : Nat) (h : ¬ k < 16) : nextWord l (wordsTo l k) =
    ((wordsTo l k).getD (k - 16) 0 + sg0 ((wordsTo l k).getD (k - 15) 0) + (wordsTo l k).getD (k - 7) 0 + sg1 ((wordsTo l k).getD (k - 2) 0)) % 4294967296 := by
  unfold nextWord; rw [wordsTo_length, if_neg h]

theorem extract_toList (s : ByteArray) (a b : Nat) : (s.extract a b).data.toList = (s.data.toList.take b).drop a := by
  rw [ByteArray.data_extract, Array.toList_extract]
  simp [List.extract, List.drop_take]

theorem be32_drop (l : List UInt8) (k : Nat) : be32 (l.drop (4 * k)) 0 = be32 l k := by
  simp [be32, List.getElem?_drop]

theorem be32_extract (s : ByteArray) (k n : Nat) (hn : s.size ≤ n) : be32 (s.extract (4 * k) n).data.toList 0 = be32 s.data.toList k := by
  rw [extract_toList, List.take_of_length_le (by simpa using hn), be32_drop]

end Go.Proofs.Ytkdplgcffdaoaaa
namespace Go.Proofs.Ytkdplgcffdaoaaa
set_option linter.unusedSimpArgs false
set_option linter.unusedVariables false
open Go Go.RowKit
set_option linter.unusedVariables false

def S8.cells (s : S8) : List Value := [.int .u32 s.a, .int .u32 s.b, .int .u32 s.c, .int .u32 s.d, .int .u32 s.e, .int .u32 s.f, .int .u32 s.g, .int .u32 s.h]
theorem S8.val_cells (s : S8) : s.val = .agg s.cells.toArray := rfl
theorem S8.cells_length (s : S8) : s.cells.length = 8 := rfl
theorem S8.cells_one (s : S8) : ∀ v ∈ s.cells, v.oneCell' = true := by
  intro v hv
  simp only [S8.cells, List.mem_cons, List.not_mem_nil, or_false] at hv
  rcases hv with rfl | rfl | rfl | rfl | rfl | rfl | rfl | rfl <;> rfl
def S8.zero : S8 := ⟨0, 0, 0, 0, 0, 0, 0, 0⟩

end Go.Proofs.Ytkdplgcffdaoaaa
namespace Go.Proofs.Ytkdplgcffdaoaaa
set_option linter.unusedSimpArgs false
set_option linter.unusedVariables false
open Go Go.RowKit
set_option linter.unusedVariables false

theorem ch_num (e f g : Nat) (he : e < 4294967296) (hf : f < 4294967296) (hg : g < 4294967296) :
    bits BinOp.xor IntKind.u32 (g : Int) (bits BinOp.and IntKind.u32 (e : Int) (bits BinOp.xor IntKind.u32 (f : Int) (g : Int))) = ((chs e f g : Nat) : Int) := by
  rw [u32_xor_nat _ _ hf hg, u32_and_nat _ _ he (xor_lt32 hf hg), u32_xor_nat _ _ hg (and_lt32 he), chs_eq he hg]
theorem maj_num (a b c : Nat) (ha : a < 4294967296) (hb : b < 4294967296) (hc : c < 4294967296) :
    bits BinOp.or IntKind.u32 (bits BinOp.and IntKind.u32 (a : Int) (b : Int)) (bits BinOp.and IntKind.u32 (c : Int) (bits BinOp.or IntKind.u32 (a : Int) (b : Int))) = ((maj a b c : Nat) : Int) := by
  rw [u32_and_nat _ _ ha hb, u32_or_nat _ _ ha hb, u32_and_nat _ _ hc (or_lt32 ha hb), u32_or_nat _ _ (and_lt32 ha) (and_lt32 hc), maj_eq]

def zeros32 (n : Nat) : List Value := List.replicate n (.int .u32 0)
/-- The numbers of a state, the first k of them added to another's. -/
def mix (y x : List Nat) (k : Nat) : List Nat := (List.range 8).map fun i => if i < k then (y.getD i 0 + x.getD i 0) % 4294967296 else y.getD i 0
theorem mix_length (y x : List Nat) (k : Nat) : (mix y x k).length = 8 := by simp [mix]
theorem mix_at (y x : List Nat) (k i : Nat) (hi : i < 8) : (mix y x k).getD i 0 = if i < k then (y.getD i 0 + x.getD i 0) % 4294967296 else y.getD i 0 := by
  simp [mix, hi]
theorem S8.cells_l (s : S8) : s.cells = nums32 s.l := rfl
theorem mix_zero (y : S8) (x : List Nat) : mix y.l x 0 = y.l := by rfl
theorem mix_all (y x : S8) : nums32 (mix y.l x.l 8) = (y.add x).cells := by rfl
theorem mix_set (y x : List Nat) (k : Nat) (hk : k < 8) : (nums32 (mix y x k)).set k (.int .u32 (((y.getD k 0 + x.getD k 0) % 4294967296 : Nat) : Int)) = nums32 (mix y x (k + 1)) := by
  apply List.ext_getElem?
  intro i
  by_cases hi : i < 8
  · rw [List.getElem?_set]
    by_cases e : k = i
    · subst e
      rw [if_pos rfl, if_pos (by simp [nums32_length, mix_length, hi]), nums32_at _ _ (by rw [mix_length]; exact hi), mix_at _ _ _ _ hi, if_pos (by omega)]
    · rw [if_neg e, nums32_at _ _ (by rw [mix_length]; exact hi), nums32_at _ _ (by rw [mix_length]; exact hi), mix_at _ _ _ _ hi, mix_at _ _ _ _ hi]
      by_cases h : i < k
      · rw [if_pos h, if_pos (by omega)]
      · rw [if_neg h, if_neg (by omega)]
  · rw [List.getElem?_eq_none (by simp [nums32_length, mix_length]; omega), List.getElem?_eq_none (by simp [nums32_length, mix_length]; omega)]

end Go.Proofs.Ytkdplgcffdaoaaa
namespace Go.Proofs.Ytkdplgcffdaoaaa
set_option linter.unusedSimpArgs false
set_option linter.unusedVariables false
open Go Go.RowKit
set_option linter.unusedVariables false

theorem padL_eq (n : Nat) : padL n = [128] ++ List.replicate (63 - (n + 8) % 64) 0 ++ beBytes 8 (8 * n) := by simp [padL]

/-- The bytes of the first k numbers. -/
def textTo (l : List Nat) (k : Nat) : List UInt8 := (l.take k).flatMap (beBytes 4)
theorem textTo_length (l : List Nat) (k : Nat) (h : k ≤ l.length) : (textTo l k).length = 4 * k := by
  induction k with
  | zero => simp [textTo]
  | succ k ih =>
    have := ih (by omega)
    unfold textTo at this ⊢
    rw [List.take_succ_eq_append_getElem (by omega), List.flatMap_append, List.length_append, this]
    simp [beBytes_length]; omega
theorem textTo_all (s : S8) : textTo s.l 8 = s.text := by simp [textTo, S8.l, S8.text]
theorem textTo_succ (l : List Nat) (k : Nat) (h : k < l.length) : textTo l (k + 1) = textTo l k ++ beBytes 4 (l.getD k 0) := by
  unfold textTo
  rw [List.take_succ_eq_append_getElem h, List.flatMap_append]
  simp [h]

theorem set4 (L R : List UInt8) (n x0 x1 x2 x3 : Nat) (k : Nat) (hL : L.length = k) :
    ((((L ++ (0 :: 0 :: 0 :: 0 :: R)).set k (UInt8.ofNat x0)).set (k + 1) (UInt8.ofNat x1)).set (k + 2) (UInt8.ofNat x2)).set (k + 3) (UInt8.ofNat x3) =
    L ++ (UInt8.ofNat x0 :: UInt8.ofNat x1 :: UInt8.ofNat x2 :: UInt8.ofNat x3 :: R) := by
  subst hL
  rw [List.set_append_right _ _ (by omega), List.set_append_right _ _ (by simp), List.set_append_right _ _ (by simp), List.set_append_right _ _ (by simp)]
  simp

theorem be4 (n : Nat) : beBytes 4 n = [UInt8.ofNat (n / 16777216 % 256), UInt8.ofNat (n / 65536 % 256), UInt8.ofNat (n / 256 % 256), UInt8.ofNat (n % 256)] := by
  simp [beBytes, Nat.div_div_eq_div_mul]

end Go.Proofs.Ytkdplgcffdaoaaa
namespace Go.Proofs.Ytkdplgcffdaoaaa
set_option linter.unusedSimpArgs false
set_option linter.unusedVariables false
open Go Go.RowKit
set_option linter.unusedVariables false

/-- The cells of a hash. -/
def hcells (st : S8) (r : ByteArray) (n : Nat) : List Value := .bool true :: (st.cells ++ [.string r, .int .i64 (n : Int)])
end Go.Proofs.Ytkdplgcffdaoaaa
namespace Go.Proofs.Ytkdplgcffdaoaaa
set_option linter.unusedSimpArgs false
set_option linter.unusedVariables false
open Go Go.RowKit

/-- The state behind the whole blocks of what was put, and the rest. -/
def hst (m : List UInt8) : S8 := blocks (m.length / 64) S8.first m
def hrest (m : List UInt8) : List UInt8 := m.drop (64 * (m.length / 64))

/-- How many bytes a text has. -/
def txtLen : Value → Nat | .string s => s.size | _ => 0

theorem blocks_succ (k : Nat) (s : S8) (l : List UInt8) : blocks (k + 1) s l = stp (blocks k s l) ((l.drop (64 * k)).take 64) := by
  induction k generalizing s l with
  | zero => simp [blocks]
  | succ k ih =>
    rw [blocks, ih, List.drop_drop, show 64 + 64 * k = 64 * (k + 1) by omega]
    rfl

theorem hst_step (m x : List UInt8) (k : Nat) (hk : 64 * k ≤ (hrest m ++ x).length) (hlt : (hrest m ++ x).length - 64 * k < 64) :
    hst (m ++ x) = blocks k (hst m) (hrest m ++ x) ∧ hrest (m ++ x) = (hrest m ++ x).drop (64 * k) := by
  have hl : (hrest m ++ x).length = m.length - 64 * (m.length / 64) + x.length := by simp [hrest]
  have hq : (m ++ x).length / 64 = m.length / 64 + k := by rw [List.length_append]; omega
  have hM : m ++ x = m.take (64 * (m.length / 64)) ++ (hrest m ++ x) := by rw [← List.append_assoc, hrest, List.take_append_drop]
  have ht : (m.take (64 * (m.length / 64))).length = 64 * (m.length / 64) := by simp; omega
  constructor
  · unfold hst
    rw [hq]
    conv => lhs; rw [hM]
    rw [blocks_append _ _ _ _ _ ht, blocks_take]
  · conv => lhs; unfold hrest
    rw [hq]
    conv => lhs; rw [hM]
    rw [List.drop_append, ht, List.drop_eq_nil_of_le (by rw [ht]; omega), List.nil_append]
    congr 1; omega

theorem hst_ok (m : List UInt8) : (hst m).ok := blocks_ok _ S8.first_ok _

end Go.Proofs.Ytkdplgcffdaoaaa
namespace Go.Proofs.Ytkdplgcffdaoaaa
set_option linter.unusedSimpArgs false
set_option linter.unusedVariables false
open Go Go.RowKit
set_option linter.unusedVariables false

theorem sha_hst (m : List UInt8) : (hst (m ++ padL m.length)).text = sha m := rfl

theorem hcells_one (st : S8) (r : ByteArray) (n : Nat) : ∀ v ∈ hcells st r n, v.oneCell' = true := by
  intro v hv
  simp only [hcells, S8.cells, List.mem_cons, List.not_mem_nil, or_false, List.cons_append, List.nil_append] at hv
  rcases hv with rfl | rfl | rfl | rfl | rfl | rfl | rfl | rfl | rfl | rfl | rfl <;> rfl

/-- A row of texts: what a variadic call hands over. -/
def StrRow (w : World) (v : Value) (xs : List ByteArray) : Prop :=
  (v = .slice none 0 0 ∧ xs = []) ∨
  ∃ g o c, v = .slice (some ⟨g, o, none⟩) xs.length c ∧ g < w.heap.size ∧ ∀ (j : Nat) (x : ByteArray), xs[j]? = some x → w.cell? ⟨g, o + j, none⟩ = some (.string x)

theorem StrRow.new (w : World) (xs : List ByteArray) (c : Nat) (t : TypeId) : StrRow (w.alloc (.cells (xs.map Value.string).toArray t)) (.slice (some ⟨w.heap.size, 0, none⟩) xs.length c) xs := by
  refine .inr ⟨_, _, _, rfl, by simp, fun j x hx => ?_⟩
  rw [Nat.zero_add]
  exact (Blk.new w (xs.map Value.string) t).cell (by simp [hx])

theorem StrRow.below {w w' : World} {v : Value} {xs : List ByteArray} (h : StrRow w v xs) {B : Nat} (hb : Below B w w') (hB : w.heap.size ≤ B) : StrRow w' v xs := by
  rcases h with h | ⟨g, o, c, h1, h2, h3⟩
  · exact .inl h
  · exact .inr ⟨g, o, c, h1, by have := hb.size; omega, fun j x hx => by rw [hb.cell (by show g < B; omega)]; exact h3 j x hx⟩

/-- All texts, one behind the other. -/
def catL (xs : List ByteArray) : List UInt8 := xs.flatMap fun x => x.data.toList
theorem catL_snoc (xs : List ByteArray) (k : Nat) (x : ByteArray) (h : xs[k]? = some x) : catL (xs.take (k + 1)) = catL (xs.take k) ++ x.data.toList := by
  obtain ⟨hk, rfl⟩ := List.getElem?_eq_some_iff.1 h
  unfold catL
  rw [List.take_succ_eq_append_getElem hk, List.flatMap_append]
  simp
theorem catL_take_le (xs : List ByteArray) (k : Nat) : (catL (xs.take k)).length ≤ (catL xs).length := by
  have : catL xs = catL (xs.take k) ++ catL (xs.drop k) := by
    unfold catL; rw [← List.flatMap_append, List.take_append_drop]
  rw [this, List.length_append]; omega

end Go.Proofs.Ytkdplgcffdaoaaa
