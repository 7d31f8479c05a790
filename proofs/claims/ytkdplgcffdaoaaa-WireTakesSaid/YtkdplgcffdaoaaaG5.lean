/- Walks of package evolve. Walk of evolve.At, and the example of chapter 18. Walks of the documents' derive (chapter 04). Walks of the documents' Key, Long (chapter 04). Walks of the documents' chapter 18: Made, At, Data. Walks of octet.Get and the documents' Get, of any text. -/
import Derived.Test.YtkdplgcffdaoaaaG3
import Derived.Test.YtkdplgcffdaoaaaG1
import Derived.WalkMore
import Derived.Test.YtkdplgcffdaoaaaG4
namespace Go.Proofs.Ytkdplgcffdaoaaa
set_option linter.unusedSimpArgs false
set_option linter.unusedVariables false
open Go Go.RowKit
set_option linter.unusedVariables false

def sealB : ByteArray := ⟨#[115, 101, 97, 108]⟩
def nextB : ByteArray := ⟨#[110, 101, 120, 116]⟩
def macB : ByteArray := ⟨#[109, 97, 99]⟩
def askB : ByteArray := ⟨#[97, 115, 107]⟩
def dataB : ByteArray := ⟨#[100, 97, 116, 97]⟩
/-- What a key makes for a label. -/
def madeL (key label : List UInt8) (xs : List Nat) : List UInt8 := mac key (saidL label xs)
/-- The epoch's key, j epochs on. -/
def atL (root : List UInt8) (first : Nat) : Nat → List UInt8
  | 0 => madeL root [115, 101, 97, 108] [first]
  | j + 1 => madeL (atL root first j) [110, 101, 120, 116] []
theorem madeL_length (k l : List UInt8) (xs : List Nat) : (madeL k l xs).length = 32 := mac_length _ _
theorem atL_length (r : List UInt8) (f j : Nat) : (atL r f j).length = 32 := by cases j <;> exact madeL_length _ _ _

end Go.Proofs.Ytkdplgcffdaoaaa
namespace Go.Proofs.Ytkdplgcffdaoaaa
set_option linter.unusedSimpArgs false
set_option linter.unusedVariables false
open Go Go.RowKit
set_option linter.unusedVariables false

/-- How At ends. -/
def AtEnd (root : List UInt8) (first epoch : Int) (e : Ending) : Prop :=
  ((0 ≤ epoch ∧ epoch ≤ 4294967295 ∧ first ≤ epoch ∧ 0 ≤ first ∧ root.length = 32 ∧ epoch - first ≤ 4096) ∧ ∃ r, e = .returned (.tuple #[.string r, .int .i64 0]) ∧ Txt r (atL root first.toNat (epoch - first).toNat)) ∨
  ((epoch < 0 ∨ 4294967295 < epoch ∨ epoch < first ∨ first < 0 ∨ root.length ≠ 32) ∧ e = .returned (.tuple #[.string ⟨#[]⟩, .int .i64 2])) ∨
  ((0 ≤ epoch ∧ epoch ≤ 4294967295 ∧ first ≤ epoch ∧ 0 ≤ first ∧ root.length = 32 ∧ 4096 < epoch - first) ∧ e = .returned (.tuple #[.string ⟨#[]⟩, .int .i64 6]))

end Go.Proofs.Ytkdplgcffdaoaaa
namespace Go.Proofs.Ytkdplgcffdaoaaa
set_option linter.unusedSimpArgs false
set_option linter.unusedVariables false
open Go Go.RowKit
set_option linter.unusedVariables false

theorem rtext01_walk (s : ByteArray) (w : World) (hs : s.size ≤ 1073741824) :
    Calls Try.prog 44 #[.string s] w fun e w' => ∃ r, e = .returned (.string r) ∧ Txt r (textL s.data.toList) ∧ Below w.heap.size w w' := by
  go_enter Try.func44, Try.ntmps44
  go_wp2_with fail
  refine (rput_walk s.size 4 _ (by omega)).mono ?_
  rintro e w1 ⟨he, hb⟩
  obtain ⟨r, rfl, tr⟩ := he.yes ⟨by omega, by omega, by omega, by show s.size < 256 ^ 4; omega⟩
  clear he
  have hr : r.size ≤ 4 := by rw [tr.size, beBytes_length]; simp
  go_wp2_with fail
  go_ret
  exact ⟨_, rfl, tr.append (Txt.self s), hb⟩

/-- One byte of the machine's memory as a text. -/
theorem conv_one (c : UInt8) (n : Int) (hn : n = ((c.toNat : Nat) : Int)) (g : Nat) (w : World) (h : w.cell? ⟨g, 0, none⟩ = some (.int .u8 n)) :
    Sem.run Try.prog (convert 52 9 (.slice (some ⟨g, 0, none⟩) 1 1)) w = .ok (.string ⟨#[c]⟩) w := by
  subst hn
  rw [run_convert_bytes_string w 52 9 5 _ _ _ Try.underlying52 Try.underlying5 Try.underlying9, run_bytes_string w _ [c] 1 1 rfl ?_]
  · rfl
  · intro j v hv
    cases j with
    | zero => simp [bytesV] at hv; subst hv; exact h
    | succ j => simp [bytesV] at hv

end Go.Proofs.Ytkdplgcffdaoaaa
namespace Go.Proofs.Ytkdplgcffdaoaaa
set_option linter.unusedSimpArgs false
set_option linter.unusedVariables false
open Go Go.RowKit
set_option linter.unusedVariables false

end Go.Proofs.Ytkdplgcffdaoaaa
namespace Go.Proofs.Ytkdplgcffdaoaaa
set_option linter.unusedSimpArgs false
set_option linter.unusedVariables false
open Go Go.RowKit
set_option linter.unusedVariables false

/-- How Made ends. -/
def MadeEnd (key label : List UInt8) (xs : List Int) (e : Ending) : Prop :=
  ((key.length = 32 ∧ saidOk label xs = true) ∧ ∃ r, e = .returned (.tuple #[.string r, .bool true]) ∧ Txt r (madeL key label (xs.map Int.toNat))) ∨
  (¬ (key.length = 32 ∧ saidOk label xs = true) ∧ e = .returned (.tuple #[.string ⟨#[]⟩, .bool false]))

end Go.Proofs.Ytkdplgcffdaoaaa
namespace Go.Proofs.Ytkdplgcffdaoaaa
set_option linter.unusedSimpArgs false
set_option linter.unusedVariables false
open Go Go.RowKit
set_option linter.unusedVariables false

theorem beNum_foldl (l : List UInt8) (a : Nat) : l.foldl (fun n b => 256 * n + b.toNat) a = a * 256 ^ l.length + beNum l := by
  induction l generalizing a with
  | nil => simp [beNum]
  | cons b r ih =>
    unfold beNum
    rw [List.foldl_cons, ih, List.foldl_cons, ih (256 * 0 + b.toNat), List.length_cons, Nat.pow_succ, Nat.add_mul]
    rw [Nat.mul_zero, Nat.zero_add, show 256 * a * 256 ^ r.length = a * (256 ^ r.length * 256) by rw [Nat.mul_comm 256 a, Nat.mul_assoc, Nat.mul_comm 256]]
    omega
theorem beNum_cons (b : UInt8) (r : List UInt8) : beNum (b :: r) = b.toNat * 256 ^ r.length + beNum r := by
  unfold beNum
  rw [List.foldl_cons, beNum_foldl]
  simp [beNum]
theorem beNum_head {l : List UInt8} {c : UInt8} {n : Nat} (hc : l[0]? = some c) (hn : l.length = n) : c.toNat * 256 ^ (n - 1) ≤ beNum l ∧ beNum l < (c.toNat + 1) * 256 ^ (n - 1) := by
  subst hn
  cases l with
  | nil => simp at hc
  | cons b r =>
    simp at hc
    subst hc
    rw [beNum_cons]
    have := beNum_lt r
    simp only [List.length_cons, Nat.add_sub_cancel, Nat.add_mul]
    omega
theorem get_or (x b : Nat) (hx : x < 36028797018963968) (hb : b < 256) : bits BinOp.or IntKind.i64 ((x : Int) * 256) ((b : Nat) : Int) = ((256 * x + b : Nat) : Int) := by
  rw [show (x : Int) * 256 = ((x * 256 : Nat) : Int) by simp, i64_or_nat _ _ (by omega) (by omega)]
  have := Nat.two_pow_add_eq_or_of_lt (i := 8) (b := b) (by omega) x
  rw [show x * 256 = 2 ^ 8 * x by omega, ← this]

set_option maxHeartbeats 1000000 in
theorem oget_walk (s : ByteArray) (w : World) :
    Calls Try.prog 55 #[.string s] w fun e w' => GetEnd s.data.toList e ∧ w = w' := by
  have hl : s.data.toList.length = s.size := rfl
  have HL := Lib.hid hl; clear hl
  by_cases c1 : s.size < 1
  · have d1 := emptyText c1
    have d0 : (s.size : Int) < 1 := by omega
    go_enter Try.func55, Try.ntmps55
    go_wp2_with fail
    go_ret2
    exact ⟨.inr ⟨by rw [HL.out]; omega, rfl⟩, rfl⟩
  have d1 := someText (s := s) (by omega)
  by_cases c2 : 8 < s.size
  · have d2 : (8 : Int) < s.size := by omega
    go_enter Try.func55, Try.ntmps55
    go_wp2_with fail
    go_ret2
    exact ⟨.inr ⟨by rw [HL.out]; omega, rfl⟩, rfl⟩
  have d2 : (s.size : Int) ≤ 8 := by omega
  have h0 : 0 < s.size := by omega
  by_cases c3 : s.size = 8 ∧ 127 < s[0].toNat
  · obtain ⟨c4, c5⟩ := c3
    have d4 : (s.size : Int) = 8 := by omega
    have d3 : (127 : Int) < (s[0].toNat : Int) := by omega
    have hbig : ¬ beNum s.data.toList < 9223372036854775808 := by
      have := (beNum_head (l := s.data.toList) (c := s[0]) (by rw [List.getElem?_eq_getElem (by rw [HL.out]; exact h0)]; rfl) (HL.out.trans c4)).1
      omega
    have HB := Lib.hid hbig; clear hbig
    go_enter Try.func55, Try.ntmps55
    go_wp2_with fail
    go_ret2
    exact ⟨.inr ⟨fun h => HB.out h.2.2, rfl⟩, rfl⟩
  have hok : ∀ k, beNum (s.data.toList.take k) < 9223372036854775808 := by
    intro k
    refine Nat.lt_of_le_of_lt (beNum_mono _ k) ?_
    by_cases c4 : s.size = 8
    · have h1 : s[0].toNat ≤ 127 := by omega
      have := (beNum_head (l := s.data.toList) (c := s[0]) (by rw [List.getElem?_eq_getElem (by rw [HL.out]; exact h0)]; rfl) (HL.out.trans c4)).2
      omega
    · have h1 := beNum_lt s.data.toList
      rw [HL.out] at h1
      exact Nat.lt_trans h1 (Nat.lt_of_le_of_lt (Nat.pow_le_pow_right (by omega) (show s.size ≤ 7 by omega)) (by omega))
  have HK := Lib.hid hok; clear hok
  by_cases c4 : s.size = 8
  · have d4 : (s.size : Int) = 8 := by omega
    obtain ⟨b0, hb0⟩ : ∃ b0, s[0] = b0 := ⟨_, rfl⟩
    rw [hb0] at c3
    have d3 : (b0.toNat : Int) ≤ 127 := by omega
    clear c3 d2
    go_enter Try.func55, Try.ntmps55
    go_wp2_with fail
    clear hb0 d3
    go_loopw [4, 25] (fun a i wr => ∃ k : Nat, k ≤ 8 ∧ i = .int .i64 k ∧ a = .int .i64 ((beNum (s.data.toList.take k) : Nat) : Int) ∧ w = wr) (fun a i _ => 8 - (intOf i).toNat)
    case atStart => exact ⟨0, by omega, rfl, rfl, rfl⟩
    case round =>
      obtain ⟨k, hk, rfl, rfl, rfl⟩ := hrel
      obtain ⟨x, Hx⟩ : ∃ x, Hid (x = beNum (s.data.toList.take k)) := ⟨_, rfl⟩
      rw [← Hx.out]
      by_cases hlt : k < 8
      · have hlt' : (k : Int) < 8 := by omega
        have hks : k < s.size := by omega
        have e1 := beNum_take s.data.toList k (by rw [HL.out]; exact hks)
        have e3 : s.data.toList[k]'(by rw [HL.out]; exact hks) = s[k] := rfl
        rw [e3, ← Hx.out] at e1
        have e2 := HK.out (k + 1)
        rw [e1] at e2
        have E1 := Lib.hid e1; clear e1 e3
        have hb := s[k].toNat_lt
        have x1 : (x : Int) < 36028797018963968 := by omega
        have x2 : 256 * (x : Int) + (s[k].toNat : Int) < 9223372036854775808 := by omega
        go_wp2_with fail
        go_roundw
        case rel =>
          refine ⟨k + 1, by omega, by go_num, ?_, by trivial⟩
          rw [E1.out]
          rw [get_or x _ (by omega) (by omega)]
        case measure => simp [intOf]; omega
      · obtain rfl : k = 8 := by omega
        have e4 : Hid (x = beNum s.data.toList) := by show x = _; rw [Hx.out, List.take_of_length_le (by rw [HL.out]; omega)]
        have e5 : x < 9223372036854775808 := by have := HK.out 8; rw [← Hx.out] at this; exact this
        have E5 := Lib.hid e5; clear e5
        go_wp2_with fail
        go_ret2
        refine ⟨.inl ⟨⟨by rw [HL.out]; omega, by rw [HL.out]; omega, by rw [← e4.out]; exact E5.out⟩, ?_⟩, rfl⟩
        rw [← e4.out]; rfl
  · have d4 : (s.size : Int) ≤ 7 := by omega
    have d5 : ¬ (s.size : Int) = 8 := by omega
    clear c3 d2
    go_enter Try.func55, Try.ntmps55
    go_wp2_with fail
    clear d5
    go_loopw [4, 25] (fun a i wr => ∃ k : Nat, k ≤ s.size ∧ i = .int .i64 k ∧ a = .int .i64 ((beNum (s.data.toList.take k) : Nat) : Int) ∧ w = wr) (fun a i _ => 8 - (intOf i).toNat)
    case atStart => exact ⟨0, by omega, rfl, rfl, rfl⟩
    case round =>
      obtain ⟨k, hk, rfl, rfl, rfl⟩ := hrel
      obtain ⟨x, Hx⟩ : ∃ x, Hid (x = beNum (s.data.toList.take k)) := ⟨_, rfl⟩
      rw [← Hx.out]
      by_cases hlt : k < s.size
      · have hlt' : (k : Int) < s.size := by omega
        have hks : k < s.size := by omega
        have e1 := beNum_take s.data.toList k (by rw [HL.out]; exact hks)
        have e3 : s.data.toList[k]'(by rw [HL.out]; exact hks) = s[k] := rfl
        rw [e3, ← Hx.out] at e1
        have e2 := HK.out (k + 1)
        rw [e1] at e2
        have E1 := Lib.hid e1; clear e1 e3
        have hb := s[k].toNat_lt
        have x1 : (x : Int) < 36028797018963968 := by omega
        have x2 : 256 * (x : Int) + (s[k].toNat : Int) < 9223372036854775808 := by omega
        go_wp2_with fail
        go_roundw
        case rel =>
          refine ⟨k + 1, by omega, by go_num, ?_, by trivial⟩
          rw [E1.out]
          rw [get_or x _ (by omega) (by omega)]
        case measure => simp [intOf]; omega
      · obtain rfl : k = s.size := by omega
        have e4 : Hid (x = beNum s.data.toList) := by show x = _; rw [Hx.out, List.take_of_length_le (by rw [HL.out]; omega)]
        have e5 : x < 9223372036854775808 := by have := HK.out s.size; rw [← Hx.out] at this; exact this
        have E5 := Lib.hid e5; clear e5
        go_wp2_with fail
        go_ret2
        refine ⟨.inl ⟨⟨by rw [HL.out]; omega, by rw [HL.out]; omega, by rw [← e4.out]; exact E5.out⟩, ?_⟩, rfl⟩
        rw [← e4.out]; rfl

end Go.Proofs.Ytkdplgcffdaoaaa
