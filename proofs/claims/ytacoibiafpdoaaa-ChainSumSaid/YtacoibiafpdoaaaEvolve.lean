/- Walks of package evolve. -/
import Derived.Test.YtacoibiafpdoaaaLaw04
import Derived.Test.YtacoibiafpdoaaaEnds
namespace Go.Proofs.Ytacoibiafpdoaaa
open Go Go.RowKit
set_option linter.unusedVariables false

def sealB : ByteArray := ⟨#[115, 101, 97, 108]⟩
def nextB : ByteArray := ⟨#[110, 101, 120, 116]⟩
def macB : ByteArray := ⟨#[109, 97, 99]⟩
def askB : ByteArray := ⟨#[97, 115, 107]⟩
def dataB : ByteArray := ⟨#[100, 97, 116, 97]⟩
/-- What a key makes for a label. -/
def madeL (key label : List UInt8) (xs : List Nat) : List UInt8 := mac key (saidL label xs)
/-- The epoch's key, j epochs on. -/
def atL (root : List UInt8) (first : Nat) : Nat → List UInt8
  | 0 => madeL root [115, 101, 97, 108] [first]
  | j + 1 => madeL (atL root first j) [110, 101, 120, 116] []
theorem madeL_length (k l : List UInt8) (xs : List Nat) : (madeL k l xs).length = 32 := mac_length _ _
theorem atL_length (r : List UInt8) (f j : Nat) : (atL r f j).length = 32 := by cases j <;> exact madeL_length _ _ _

theorem may_walk (n : Int) (w : World) :
    Calls Try.prog 114 #[.int .i64 n] w fun e w' => e = .returned (.bool (decide (0 ≤ n ∧ n ≤ 4294967295))) ∧ w = w' := by
  by_cases c1 : 0 ≤ n
  · by_cases c2 : n ≤ 4294967295
    · rw [decide_eq_true (show 0 ≤ n ∧ n ≤ 4294967295 by omega)]
      go_enter Try.func114, Try.ntmps114
      go_wp2_with fail
      go_ret
      exact ⟨rfl, rfl⟩
    · have d2 : 4294967295 < n := by omega
      rw [decide_eq_false (show ¬ (0 ≤ n ∧ n ≤ 4294967295) by omega)]
      go_enter Try.func114, Try.ntmps114
      go_wp2_with fail
      go_ret
      exact ⟨rfl, rfl⟩
  · have d1 : n < 0 := by omega
    rw [decide_eq_false (show ¬ (0 ≤ n ∧ n ≤ 4294967295) by omega)]
    go_enter Try.func114, Try.ntmps114
    go_wp2_with fail
    go_ret
    exact ⟨rfl, rfl⟩

theorem of_walk (key label : ByteArray) (v : Value) (xs : List Int) (w : World) (h : IntRow w v xs) (hok : saidOk label.data.toList xs = true) (hx : ∀ (j : Nat) (x : Int), xs[j]? = some x → x < 9223372036854775808) (hxl : xs.length ≤ 1073741824) :
    Calls Try.prog 115 #[.string key, .string label, v] w fun e w' => Ends (key.size = 32) (madeL key.data.toList label.data.toList (xs.map Int.toNat)) 2 e ∧ Below w.heap.size w w' := by
  have Hx := Lib.hid hx; clear hx
  have H := Lib.hid h; clear h
  have HO := Lib.hid hok; clear hok
  by_cases c1 : key.size = 32
  · have d1 : (key.size : Int) = 32 := by omega
    go_enter Try.func115, Try.ntmps115
    go_wp2_with fail
    refine (key_walk key label v xs _ (by omega) H.out Hx.out hxl).mono ?_
    rintro e w1 ⟨⟨_, r, rfl, tr⟩ | ⟨hno, rfl⟩, hb1⟩
    · go_wp2_with fail
      go_ret2
      exact ⟨.inl ⟨c1, r, rfl, tr⟩, hb1⟩
    · exact absurd (HO.out.symm.trans hno) (by decide)
  · have d1 : ¬ (key.size : Int) = 32 := by omega
    go_enter Try.func115, Try.ntmps115
    go_wp2_with fail
    go_ret2
    exact ⟨.inr ⟨c1, rfl⟩, Below.refl _ _⟩

theorem nextKey_walk (key : ByteArray) (w : World) :
    Calls Try.prog 64 #[.string key] w fun e w' => Ends (key.size = 32) (madeL key.data.toList [110, 101, 120, 116] []) 2 e ∧ Below w.heap.size w w' := by
  go_enter Try.func64, Try.ntmps64
  go_wp2_with fail
  refine (of_walk key nextB _ [] _ (IntRow.nil _) (by decide) (fun j x h => by simp at h) (by simp)).mono ?_
  rintro e w1 ⟨⟨h, r, rfl, tr⟩ | ⟨h, rfl⟩, hb1⟩
  · go_wp2_with fail
    go_ret2
    exact ⟨.inl ⟨h, r, rfl, tr⟩, hb1⟩
  · go_wp2_with fail
    go_ret2
    exact ⟨.inr ⟨h, rfl⟩, hb1⟩

theorem macKey_walk (key : ByteArray) (w : World) :
    Calls Try.prog 67 #[.string key] w fun e w' => Ends (key.size = 32) (madeL key.data.toList [109, 97, 99] []) 2 e ∧ Below w.heap.size w w' := by
  go_enter Try.func67, Try.ntmps67
  go_wp2_with fail
  refine (of_walk key macB _ [] _ (IntRow.nil _) (by decide) (fun j x h => by simp at h) (by simp)).mono ?_
  rintro e w1 ⟨⟨h, r, rfl, tr⟩ | ⟨h, rfl⟩, hb1⟩
  · go_wp2_with fail
    go_ret2
    exact ⟨.inl ⟨h, r, rfl, tr⟩, hb1⟩
  · go_wp2_with fail
    go_ret2
    exact ⟨.inr ⟨h, rfl⟩, hb1⟩

theorem askKey_walk (key : ByteArray) (w : World) :
    Calls Try.prog 68 #[.string key] w fun e w' => Ends (key.size = 32) (madeL key.data.toList [97, 115, 107] []) 2 e ∧ Below w.heap.size w w' := by
  go_enter Try.func68, Try.ntmps68
  go_wp2_with fail
  refine (of_walk key askB _ [] _ (IntRow.nil _) (by decide) (fun j x h => by simp at h) (by simp)).mono ?_
  rintro e w1 ⟨⟨h, r, rfl, tr⟩ | ⟨h, rfl⟩, hb1⟩
  · go_wp2_with fail
    go_ret2
    exact ⟨.inl ⟨h, r, rfl, tr⟩, hb1⟩
  · go_wp2_with fail
    go_ret2
    exact ⟨.inr ⟨h, rfl⟩, hb1⟩

theorem dataKey_walk (root : ByteArray) (w : World) :
    Calls Try.prog 79 #[.string root] w fun e w' => Ends (root.size = 32) (longL root.data.toList [100, 97, 116, 97] 16) 2 e ∧ Below w.heap.size w w' := by
  by_cases c1 : root.size = 32
  · have d1 : (root.size : Int) = 32 := by omega
    go_enter Try.func79, Try.ntmps79
    go_wp2_with fail
    refine (long_walk root dataB 16 _ (by omega)).mono ?_
    rintro e w1 ⟨⟨_, _, _, r, rfl, tr⟩ | ⟨hno, rfl⟩, hb1⟩
    · go_wp2_with fail
      go_ret2
      exact ⟨.inl ⟨c1, r, rfl, tr⟩, hb1⟩
    · rcases hno with h | h | h
      · omega
      · omega
      · exact absurd h (by decide)
  · have d1 : ¬ (root.size : Int) = 32 := by omega
    go_enter Try.func79, Try.ntmps79
    go_wp2_with fail
    go_ret2
    exact ⟨.inr ⟨c1, rfl⟩, Below.refl _ _⟩

theorem firstKey_walk (root : ByteArray) (n : Int) (w : World) :
    Calls Try.prog 63 #[.string root, .int .i64 n] w fun e w' => Ends (0 ≤ n ∧ n ≤ 4294967295 ∧ root.size = 32) (madeL root.data.toList [115, 101, 97, 108] [n.toNat]) 2 e ∧ Below w.heap.size w w' := by
  by_cases c1 : 0 ≤ n ∧ n ≤ 4294967295
  · go_enter Try.func63, Try.ntmps63
    go_wp2_with fail
    refine (may_walk n _).mono ?_
    rintro e w1 ⟨rfl, rfl⟩
    rw [decide_eq_true c1]
    go_wp2_with ((with_reducible refine wpList_slice_new 54 3 1 ?parts [.int .i64 n] (.int .i64 0) 1 8 (some 11) Try.underlying54 infoInt (by omega) (by omega) ?hgd ?ho ?hd ?hf ?_); (case hgd => rfl); (case ho => rfl); (case hd => rfl); (case hf => kernel_rfl); (intro g w2 l2 B2 e2 z2))
    refine (of_walk root sealB _ [n] _ (IntRow.blk (xs := [n]) B2 rfl 1) ?_ ?_ (by simp)).mono ?_
    · simp [saidOk, sealB]; omega
    · intro j x hx
      cases j with
      | zero => simp at hx; omega
      | succ j => simp at hx
    rintro e w3 ⟨⟨h, r, rfl, tr⟩ | ⟨h, rfl⟩, hb3⟩
    · go_wp2_with fail
      go_ret2
      exact ⟨.inl ⟨⟨c1.1, c1.2, h⟩, r, rfl, tr⟩, (e2.mono l2).trans (hb3.mono (by omega))⟩
    · go_wp2_with fail
      go_ret2
      exact ⟨.inr ⟨fun hh => h hh.2.2, rfl⟩, (e2.mono l2).trans (hb3.mono (by omega))⟩
  · go_enter Try.func63, Try.ntmps63
    go_wp2_with fail
    refine (may_walk n _).mono ?_
    rintro e w1 ⟨rfl, rfl⟩
    rw [decide_eq_false c1]
    go_wp2_with fail
    go_ret2
    exact ⟨.inr ⟨fun hh => c1 ⟨hh.1, hh.2.1⟩, rfl⟩, Below.refl _ _⟩
end Go.Proofs.Ytacoibiafpdoaaa
