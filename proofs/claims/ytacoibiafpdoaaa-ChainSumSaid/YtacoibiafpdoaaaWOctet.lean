/- Walks of package octet. -/
import Derived.Test.YtacoibiafpdoaaaProg
import Derived.Test.YtacoibiafpdoaaaSha
import Derived.Test.YtacoibiafpdoaaaBytes
import Derived.ProofKit
import Derived.Handy
import Derived.Deep.QuietTactic
import Derived.BigQuiet
import Derived.Lib.Hide
import Derived.Outline
namespace Go.Proofs.Ytacoibiafpdoaaa
open Go Go.RowKit
set_option linter.unusedVariables false

theorem infoByte : (Try.prog.info? 5).map (fun i => (i.zero, i.size, i.bytes)) = some (some (.int .u8 0), 1, 1) := by kernel_rfl

theorem beBytes_front (k n : Nat) : beBytes (k + 1) n = UInt8.ofNat (n / 256 ^ k % 256) :: beBytes k n := by
  induction k generalizing n with
  | zero => simp [beBytes]
  | succ k ih =>
    rw [show beBytes (k + 1 + 1) n = beBytes (k + 1) (n / 256) ++ [UInt8.ofNat (n % 256)] from rfl, ih]
    simp only [List.cons_append, Nat.div_div_eq_div_mul]
    rw [show 256 * 256 ^ k = 256 ^ (k + 1) by rw [Nat.pow_succ]; omega]
    rfl

/-- What of a number's bytes is there behind k rounds. -/
def putTo (n wd k : Nat) : List UInt8 := List.replicate (wd - k) 0 ++ beBytes k n
theorem putTo_length (n wd k : Nat) (h : k ≤ wd) : (putTo n wd k).length = wd := by simp [putTo, beBytes_length]; omega
theorem putTo_set (n wd k : Nat) (h : k < wd) : (putTo n wd k).set (wd - 1 - k) (UInt8.ofNat (n / 256 ^ k % 256)) = putTo n wd (k + 1) := by
  unfold putTo
  rw [show List.replicate (wd - k) (0 : UInt8) = List.replicate (wd - (k + 1)) 0 ++ [0] by rw [← List.replicate_succ']; congr 1; omega]
  rw [List.append_assoc, List.set_append_right _ _ (by simp; omega), beBytes_front]
  simp [show wd - 1 - k - (wd - (k + 1)) = 0 by omega]

theorem div_zero_of (n wd : Nat) (h2 : wd ≤ 8) (hn : n < 9223372036854775808) (hf : wd < 8 → n < 256 ^ wd) : (n : Int) / 2 ^ (8 * wd) ≤ 0 := by
  have h : n < 2 ^ (8 * wd) := by
    by_cases h8 : wd < 8
    · have := hf h8
      rwa [show (256 : Nat) = 2 ^ 8 from rfl, ← Nat.pow_mul] at this
    · obtain rfl : wd = 8 := by omega
      exact Nat.lt_of_lt_of_le hn (by decide)
  have : n / 2 ^ (8 * wd) = 0 := Nat.div_eq_of_lt h
  have e : (n : Int) / 2 ^ (8 * wd) = ((n / 2 ^ (8 * wd) : Nat) : Int) := by simp
  rw [e, this]; exact Int.le_refl _

theorem byte_num (n k : Nat) : (n : Int) / 2 ^ (8 * k) % 256 = (((UInt8.ofNat (n / 256 ^ k % 256)).toNat : Nat) : Int) := by
  have e : (n : Int) / 2 ^ (8 * k) % 256 = ((n / 2 ^ (8 * k) % 256 : Nat) : Int) := by simp
  rw [e, Nat.pow_mul]
  simp

set_option maxRecDepth 100000 in
set_option maxHeartbeats 1000000 in
theorem oput_ok (n wd : Nat) (w : World) (h1 : 1 ≤ wd) (h2 : wd ≤ 8) (hn : n < 9223372036854775808) (hf : wd < 8 → n < 256 ^ wd) :
    Calls Try.prog 109 #[.int .i64 n, .int .i64 wd] w fun e w' => e = .returned (.tuple #[str (beBytes wd n), .int .i64 0]) ∧ Below w.heap.size w w' := by
  have e1 : (1 : Int) ≤ wd := by omega
  have e2 : (wd : Int) ≤ 8 := by omega
  have e3 : (n : Int) ≤ 9223372036854775807 := by omega
  have hq := div_zero_of n wd h2 hn hf
  clear hf hn
  by_cases h8 : (wd : Int) < 8
  all_goals
    go_enter Try.func109, Try.ntmps109
    go_wp2_with (first
      | ((with_reducible refine wpList_make_bytes 104 5 (.tmp 29) (.tmp 29) wd (some 30) (wd : Int) Try.underlying104 infoByte (by omega) rfl ?hgd ?ho ?hd ?hx ?hy ?_); (case hgd => rfl); (case ho => rfl); (case hd => rfl); (case hx => rfl); (case hy => rfl); (intro g w1 l1 B1 e1' z1)))
    have HB := Lib.hid B1; clear B1
    go_loopw [32] (fun i wr => ∃ k : Nat, k ≤ wd ∧ i = .int .i64 k ∧ Blk wr g (bytesV (putTo n wd k)) 5 ∧ Below w.heap.size w wr) (fun i _ => wd - (intOf i).toNat)
    case atStart => exact ⟨0, by omega, rfl, HB.out.ext (by simp [putTo, beBytes]), e1'.mono l1⟩
    case round =>
      clear HB e1' z1
      obtain ⟨k, hk, rfl, hblk, hbel⟩ := hrel
      by_cases hlt : k < wd
      · have hlt' : (k : Int) < wd := by omega
        have hck := hblk.cell (bytesV_at _ (wd - 1 - k) (by rw [putTo_length _ _ _ hk]; omega))
        have hcf := hblk.free (wd - 1 - k)
        have HB := Lib.hid hblk; clear hblk
        go_wp2_with fail
        go_roundw
        case rel =>
          refine ⟨k + 1, by omega, by go_num, ?_, hbel.setCell (by show w.heap.size ≤ g; omega) _⟩
          refine (HB.out.set _ _).ext ?_
          rw [← putTo_set _ _ _ hlt, ← bytesV_set]
          congr 2
          exact byte_num n k
        case measure => simp [intOf]; omega
      · obtain rfl : k = wd := by omega
        have HB := Lib.hid hblk; clear hblk
        go_wp2_with (first
          | ((with_reducible refine wpList_string_bytes 104 9 5 (.tmp 47) (putTo n k k) g 0 k k (some 48) Try.underlying104 Try.underlying5 Try.underlying9 HB.out.range (by rw [putTo_length _ _ _ (Nat.le_refl _)]) ?hgd ?ho ?hd ?hx ?_); (case hgd => rfl); (case ho => rfl); (case hd => rfl); (case hx => rfl)))
        go_ret2
        refine ⟨?_, hbel⟩
        have ef : putTo n k k = beBytes k n := by simp [putTo]
        rw [← ef]
        rfl

/-- Put, where it may be: the text by its bytes. -/
theorem oput (n wd : Nat) (w : World) (h1 : 1 ≤ wd) (h2 : wd ≤ 8) (hn : n < 9223372036854775808) (hf : wd < 8 → n < 256 ^ wd) :
    Calls Try.prog 109 #[.int .i64 n, .int .i64 wd] w fun e w' => ∃ r, e = .returned (.tuple #[.string r, .int .i64 0]) ∧ Txt r (beBytes wd n) ∧ Below w.heap.size w w' :=
  (oput_ok n wd w h1 h2 hn hf).mono fun _ _ ⟨a, b⟩ => ⟨_, a, Txt.mk _, b⟩
end Go.Proofs.Ytacoibiafpdoaaa
