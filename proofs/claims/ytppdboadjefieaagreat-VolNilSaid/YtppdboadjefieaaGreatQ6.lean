/- Walks of package evolve. Walk of evolve.At, and the example of chapter 18. Walks of the documents' derive (chapter 04). Walks of the documents' Key, Long (chapter 04). Walks of the documents' chapter 18: Made, At, Data. Walks of octet.Get and the documents' Get, of any text. What bytes begin with: texts, numbers (chapter 1). No program in sight. Shapes, superblocks, keys' places (chapters 9, 10, 11): what they are, in plain words. No program in sight. Walks of package record: names, within, rest. Walk of record.rest, by kinds. -/
import Derived.Test.YtppdboadjefieaaGreatQ5
import Derived.Test.YtppdboadjefieaaGreatQ2
import Derived.WalkMore
import Derived.OwnWalk
import Derived.RegionTactic
import Derived.ChangeAlike
set_option linter.unusedSimpArgs false
set_option linter.unusedVariables false
namespace Go.Proofs.YtppdboadjefieaaGreat
open Go Go.RowKit

def sealB : ByteArray := ⟨#[115, 101, 97, 108]⟩
def nextB : ByteArray := ⟨#[110, 101, 120, 116]⟩
def macB : ByteArray := ⟨#[109, 97, 99]⟩
def dataB : ByteArray := ⟨#[100, 97, 116, 97]⟩
def madeL (key label : List UInt8) (xs : List Nat) : List UInt8 := mac key (saidL label xs)
theorem madeL_length (k l : List UInt8) (xs : List Nat) : (madeL k l xs).length = 32 := mac_length _ _
theorem may_walk (n : Int) (w : World) :
    Calls Tryz.prog 164 #[.int .i64 n] w fun e w' => e = .returned (.bool (decide (0 ≤ n ∧ n ≤ 4294967295))) ∧ w = w' := by
  by_cases c1 : 0 ≤ n
  · by_cases c2 : n ≤ 4294967295
    · rw [decide_eq_true (show 0 ≤ n ∧ n ≤ 4294967295 by omega)]
      go_enter Tryz.func164, Tryz.ntmps164
      go_wp2_with fail
      go_ret
      exact ⟨rfl, rfl⟩
    · have d2 : 4294967295 < n := by omega
      rw [decide_eq_false (show ¬ (0 ≤ n ∧ n ≤ 4294967295) by omega)]
      go_enter Tryz.func164, Tryz.ntmps164
      go_wp2_with fail
      go_ret
      exact ⟨rfl, rfl⟩
  · have d1 : n < 0 := by omega
    rw [decide_eq_false (show ¬ (0 ≤ n ∧ n ≤ 4294967295) by omega)]
    go_enter Tryz.func164, Tryz.ntmps164
    go_wp2_with fail
    go_ret
    exact ⟨rfl, rfl⟩

theorem of_walk (key label : ByteArray) (v : Value) (xs : List Int) (w : World) (h : IntRow w v xs) (hok : saidOk label.data.toList xs = true) (hx : ∀ (j : Nat) (x : Int), xs[j]? = some x → x < 9223372036854775808) (hxl : xs.length ≤ 1073741824) :
    Calls Tryz.prog 165 #[.string key, .string label, v] w fun e w' => Ends (key.size = 32) (madeL key.data.toList label.data.toList (xs.map Int.toNat)) 2 e ∧ Below w.heap.size w w' := by
  have Hx := Lib.hid hx; clear hx
  have H := Lib.hid h; clear h
  have HO := Lib.hid hok; clear hok
  by_cases c1 : key.size = 32
  · have d1 : (key.size : Int) = 32 := by omega
    go_enter Tryz.func165, Tryz.ntmps165
    go_wp2_with fail
    refine (key_walk key label v xs _ (by omega) H.out Hx.out hxl).mono ?_
    rintro e w1 ⟨⟨_, r, rfl, tr⟩ | ⟨hno, rfl⟩, hb1⟩
    · go_wp2_with fail
      go_ret2
      exact ⟨.inl ⟨c1, r, rfl, tr⟩, hb1⟩
    · exact absurd (HO.out.symm.trans hno) (by decide)
  · have d1 : ¬ (key.size : Int) = 32 := by omega
    go_enter Tryz.func165, Tryz.ntmps165
    go_wp2_with fail
    go_ret2
    exact ⟨.inr ⟨c1, rfl⟩, Below.refl _ _⟩

theorem nextKey_walk (key : ByteArray) (w : World) :
    Calls Tryz.prog 141 #[.string key] w fun e w' => Ends (key.size = 32) (madeL key.data.toList [110, 101, 120, 116] []) 2 e ∧ Below w.heap.size w w' := by
  go_enter Tryz.func141, Tryz.ntmps141
  go_wp2_with fail
  refine (of_walk key nextB _ [] _ (IntRow.nil _) (by decide) (fun j x h => by simp at h) (by simp)).mono ?_
  rintro e w1 ⟨⟨h, r, rfl, tr⟩ | ⟨h, rfl⟩, hb1⟩
  · go_wp2_with fail
    go_ret2
    exact ⟨.inl ⟨h, r, rfl, tr⟩, hb1⟩
  · go_wp2_with fail
    go_ret2
    exact ⟨.inr ⟨h, rfl⟩, hb1⟩

theorem macKey_walk (key : ByteArray) (w : World) :
    Calls Tryz.prog 312 #[.string key] w fun e w' => Ends (key.size = 32) (madeL key.data.toList [109, 97, 99] []) 2 e ∧ Below w.heap.size w w' := by
  go_enter Tryz.func312, Tryz.ntmps312
  go_wp2_with fail
  refine (of_walk key macB _ [] _ (IntRow.nil _) (by decide) (fun j x h => by simp at h) (by simp)).mono ?_
  rintro e w1 ⟨⟨h, r, rfl, tr⟩ | ⟨h, rfl⟩, hb1⟩
  · go_wp2_with fail
    go_ret2
    exact ⟨.inl ⟨h, r, rfl, tr⟩, hb1⟩
  · go_wp2_with fail
    go_ret2
    exact ⟨.inr ⟨h, rfl⟩, hb1⟩

theorem dataKey_walk (root : ByteArray) (w : World) :
    Calls Tryz.prog 77 #[.string root] w fun e w' => Ends (root.size = 32) (longL root.data.toList [100, 97, 116, 97] 16) 2 e ∧ Below w.heap.size w w' := by
  by_cases c1 : root.size = 32
  · have d1 : (root.size : Int) = 32 := by omega
    go_enter Tryz.func77, Tryz.ntmps77
    go_wp2_with fail
    refine (long_walk root dataB 16 _ (by omega)).mono ?_
    rintro e w1 ⟨⟨_, _, _, r, rfl, tr⟩ | ⟨hno, rfl⟩, hb1⟩
    · go_wp2_with fail
      go_ret2
      exact ⟨.inl ⟨c1, r, rfl, tr⟩, hb1⟩
    · rcases hno with h | h | h
      · omega
      · omega
      · exact absurd h (by decide)
  · have d1 : ¬ (root.size : Int) = 32 := by omega
    go_enter Tryz.func77, Tryz.ntmps77
    go_wp2_with fail
    go_ret2
    exact ⟨.inr ⟨c1, rfl⟩, Below.refl _ _⟩

theorem firstKey_walk (root : ByteArray) (n : Int) (w : World) :
    Calls Tryz.prog 79 #[.string root, .int .i64 n] w fun e w' => Ends (0 ≤ n ∧ n ≤ 4294967295 ∧ root.size = 32) (madeL root.data.toList [115, 101, 97, 108] [n.toNat]) 2 e ∧ Below w.heap.size w w' := by
  by_cases c1 : 0 ≤ n ∧ n ≤ 4294967295
  · go_enter Tryz.func79, Tryz.ntmps79
    go_wp2_with fail
    refine (may_walk n _).mono ?_
    rintro e w1 ⟨rfl, rfl⟩
    rw [decide_eq_true c1]
    go_wp2_with ((with_reducible refine wpList_slice_new 58 3 1 ?parts [.int .i64 n] (.int .i64 0) 1 8 (some 11) Tryz.underlying58 infoInt (by omega) (by omega) ?hgd ?ho ?hd ?hf ?_); (case hgd | ho | hd => rfl); (case hf => kernel_rfl); (intro g w2 l2 B2 e2 z2))
    refine (of_walk root sealB _ [n] _ (IntRow.blk (xs := [n]) B2 rfl 1) ?_ ?_ (by simp)).mono ?_
    · simp [saidOk, sealB]; omega
    · intro j x hx
      cases j with
      | zero => simp at hx; omega
      | succ j => simp at hx
    rintro e w3 ⟨⟨h, r, rfl, tr⟩ | ⟨h, rfl⟩, hb3⟩
    · go_wp2_with fail
      go_ret2
      exact ⟨.inl ⟨⟨c1.1, c1.2, h⟩, r, rfl, tr⟩, (e2.mono l2).trans (hb3.mono (by omega))⟩
    · go_wp2_with fail
      go_ret2
      exact ⟨.inr ⟨fun hh => h hh.2.2, rfl⟩, (e2.mono l2).trans (hb3.mono (by omega))⟩
  · go_enter Tryz.func79, Tryz.ntmps79
    go_wp2_with fail
    refine (may_walk n _).mono ?_
    rintro e w1 ⟨rfl, rfl⟩
    rw [decide_eq_false c1]
    go_wp2_with fail
    go_ret2
    exact ⟨.inr ⟨fun hh => c1 ⟨hh.1, hh.2.1⟩, rfl⟩, Below.refl _ _⟩
end Go.Proofs.YtppdboadjefieaaGreat
namespace Go.Proofs.YtppdboadjefieaaGreat
open Go Go.RowKit

end Go.Proofs.YtppdboadjefieaaGreat
namespace Go.Proofs.YtppdboadjefieaaGreat
open Go Go.RowKit

end Go.Proofs.YtppdboadjefieaaGreat
namespace Go.Proofs.YtppdboadjefieaaGreat
open Go Go.RowKit

end Go.Proofs.YtppdboadjefieaaGreat
namespace Go.Proofs.YtppdboadjefieaaGreat
open Go Go.RowKit

end Go.Proofs.YtppdboadjefieaaGreat
namespace Go.Proofs.YtppdboadjefieaaGreat
open Go Go.RowKit

theorem beNum_foldl (l : List UInt8) (a : Nat) : l.foldl (fun n b => 256 * n + b.toNat) a = a * 256 ^ l.length + beNum l := by
  induction l generalizing a with
  | nil => simp [beNum]
  | cons b r ih =>
    unfold beNum
    rw [List.foldl_cons, ih, List.foldl_cons, ih (256 * 0 + b.toNat), List.length_cons, Nat.pow_succ, Nat.add_mul]
    rw [Nat.mul_zero, Nat.zero_add, show 256 * a * 256 ^ r.length = a * (256 ^ r.length * 256) by rw [Nat.mul_comm 256 a, Nat.mul_assoc, Nat.mul_comm 256]]
    omega
theorem beNum_cons (b : UInt8) (r : List UInt8) : beNum (b :: r) = b.toNat * 256 ^ r.length + beNum r := by
  unfold beNum
  rw [List.foldl_cons, beNum_foldl]
  simp [beNum]
theorem beNum_head {l : List UInt8} {c : UInt8} {n : Nat} (hc : l[0]? = some c) (hn : l.length = n) : c.toNat * 256 ^ (n - 1) ≤ beNum l ∧ beNum l < (c.toNat + 1) * 256 ^ (n - 1) := by
  subst hn
  cases l with
  | nil => simp at hc
  | cons b r =>
    simp at hc
    subst hc
    rw [beNum_cons]
    have := beNum_lt r
    simp only [List.length_cons, Nat.add_sub_cancel, Nat.add_mul]
    omega
theorem get_or (x b : Nat) (hx : x < 36028797018963968) (hb : b < 256) : bits BinOp.or IntKind.i64 ((x : Int) * 256) ((b : Nat) : Int) = ((256 * x + b : Nat) : Int) := by
  rw [show (x : Int) * 256 = ((x * 256 : Nat) : Int) by simp, i64_or_nat _ _ (by omega) (by omega)]
  have := Nat.two_pow_add_eq_or_of_lt (i := 8) (b := b) (by omega) x
  rw [show x * 256 = 2 ^ 8 * x by omega, ← this]

set_option maxHeartbeats 1000000 in
theorem oget_walk (s : ByteArray) (w : World) :
    Calls Tryz.prog 289 #[.string s] w fun e w' => GetEnd s.data.toList e ∧ w = w' := by
  have hl : s.data.toList.length = s.size := rfl
  have HL := Lib.hid hl; clear hl
  by_cases c1 : s.size < 1
  · have d1 := emptyText c1
    have d0 : (s.size : Int) < 1 := by omega
    go_enter Tryz.func289, Tryz.ntmps289
    go_wp2_with fail
    go_ret2
    exact ⟨.inr ⟨by rw [HL.out]; omega, rfl⟩, rfl⟩
  have d1 := someText (s := s) (by omega)
  by_cases c2 : 8 < s.size
  · have d2 : (8 : Int) < s.size := by omega
    go_enter Tryz.func289, Tryz.ntmps289
    go_wp2_with fail
    go_ret2
    exact ⟨.inr ⟨by rw [HL.out]; omega, rfl⟩, rfl⟩
  have d2 : (s.size : Int) ≤ 8 := by omega
  have h0 : 0 < s.size := by omega
  by_cases c3 : s.size = 8 ∧ 127 < s[0].toNat
  · obtain ⟨c4, c5⟩ := c3
    have d4 : (s.size : Int) = 8 := by omega
    have d3 : (127 : Int) < (s[0].toNat : Int) := by omega
    have hbig : ¬ beNum s.data.toList < 9223372036854775808 := by
      have := (beNum_head (l := s.data.toList) (c := s[0]) (by rw [List.getElem?_eq_getElem (by rw [HL.out]; exact h0)]; rfl) (HL.out.trans c4)).1
      omega
    have HB := Lib.hid hbig; clear hbig
    go_enter Tryz.func289, Tryz.ntmps289
    go_wp2_with fail
    go_ret2
    exact ⟨.inr ⟨fun h => HB.out h.2.2, rfl⟩, rfl⟩
  have hok : ∀ k, beNum (s.data.toList.take k) < 9223372036854775808 := by
    intro k
    refine Nat.lt_of_le_of_lt (beNum_mono _ k) ?_
    by_cases c4 : s.size = 8
    · have h1 : s[0].toNat ≤ 127 := by omega
      have := (beNum_head (l := s.data.toList) (c := s[0]) (by rw [List.getElem?_eq_getElem (by rw [HL.out]; exact h0)]; rfl) (HL.out.trans c4)).2
      omega
    · have h1 := beNum_lt s.data.toList
      rw [HL.out] at h1
      exact Nat.lt_trans h1 (Nat.lt_of_le_of_lt (Nat.pow_le_pow_right (by omega) (show s.size ≤ 7 by omega)) (by omega))
  have HK := Lib.hid hok; clear hok
  by_cases c4 : s.size = 8
  · have d4 : (s.size : Int) = 8 := by omega
    obtain ⟨b0, hb0⟩ : ∃ b0, s[0] = b0 := ⟨_, rfl⟩
    rw [hb0] at c3
    have d3 : (b0.toNat : Int) ≤ 127 := by omega
    clear c3 d2
    go_enter Tryz.func289, Tryz.ntmps289
    go_wp2_with fail
    clear hb0 d3
    go_loopw [4, 25] (fun a i wr => ∃ k : Nat, k ≤ 8 ∧ i = .int .i64 k ∧ a = .int .i64 ((beNum (s.data.toList.take k) : Nat) : Int) ∧ w = wr) (fun a i _ => 8 - (intOf i).toNat)
    case atStart => exact ⟨0, by omega, rfl, rfl, rfl⟩
    case round =>
      obtain ⟨k, hk, rfl, rfl, rfl⟩ := hrel
      obtain ⟨x, Hx⟩ : ∃ x, Hid (x = beNum (s.data.toList.take k)) := ⟨_, rfl⟩
      rw [← Hx.out]
      by_cases hlt : k < 8
      · have hlt' : (k : Int) < 8 := by omega
        have hks : k < s.size := by omega
        have e1 := beNum_take s.data.toList k (by rw [HL.out]; exact hks)
        have e3 : s.data.toList[k]'(by rw [HL.out]; exact hks) = s[k] := rfl
        rw [e3, ← Hx.out] at e1
        have e2 := HK.out (k + 1)
        rw [e1] at e2
        have E1 := Lib.hid e1; clear e1 e3
        have hb := s[k].toNat_lt
        have x1 : (x : Int) < 36028797018963968 := by omega
        have x2 : 256 * (x : Int) + (s[k].toNat : Int) < 9223372036854775808 := by omega
        go_wp2_with fail
        go_roundw
        case rel =>
          refine ⟨k + 1, by omega, by go_num, ?_, by trivial⟩
          rw [E1.out]
          rw [get_or x _ (by omega) (by omega)]
        case measure => simp [intOf]; omega
      · obtain rfl : k = 8 := by omega
        have e4 : Hid (x = beNum s.data.toList) := by show x = _; rw [Hx.out, List.take_of_length_le (by rw [HL.out]; omega)]
        have e5 : x < 9223372036854775808 := by have := HK.out 8; rw [← Hx.out] at this; exact this
        have E5 := Lib.hid e5; clear e5
        go_wp2_with fail
        go_ret2
        refine ⟨.inl ⟨⟨by rw [HL.out]; omega, by rw [HL.out]; omega, by rw [← e4.out]; exact E5.out⟩, ?_⟩, rfl⟩
        rw [← e4.out]; rfl
  · have d4 : (s.size : Int) ≤ 7 := by omega
    have d5 : ¬ (s.size : Int) = 8 := by omega
    clear c3 d2
    go_enter Tryz.func289, Tryz.ntmps289
    go_wp2_with fail
    clear d5
    go_loopw [4, 25] (fun a i wr => ∃ k : Nat, k ≤ s.size ∧ i = .int .i64 k ∧ a = .int .i64 ((beNum (s.data.toList.take k) : Nat) : Int) ∧ w = wr) (fun a i _ => 8 - (intOf i).toNat)
    case atStart => exact ⟨0, by omega, rfl, rfl, rfl⟩
    case round =>
      obtain ⟨k, hk, rfl, rfl, rfl⟩ := hrel
      obtain ⟨x, Hx⟩ : ∃ x, Hid (x = beNum (s.data.toList.take k)) := ⟨_, rfl⟩
      rw [← Hx.out]
      by_cases hlt : k < s.size
      · have hlt' : (k : Int) < s.size := by omega
        have hks : k < s.size := by omega
        have e1 := beNum_take s.data.toList k (by rw [HL.out]; exact hks)
        have e3 : s.data.toList[k]'(by rw [HL.out]; exact hks) = s[k] := rfl
        rw [e3, ← Hx.out] at e1
        have e2 := HK.out (k + 1)
        rw [e1] at e2
        have E1 := Lib.hid e1; clear e1 e3
        have hb := s[k].toNat_lt
        have x1 : (x : Int) < 36028797018963968 := by omega
        have x2 : 256 * (x : Int) + (s[k].toNat : Int) < 9223372036854775808 := by omega
        go_wp2_with fail
        go_roundw
        case rel =>
          refine ⟨k + 1, by omega, by go_num, ?_, by trivial⟩
          rw [E1.out]
          rw [get_or x _ (by omega) (by omega)]
        case measure => simp [intOf]; omega
      · obtain rfl : k = s.size := by omega
        have e4 : Hid (x = beNum s.data.toList) := by show x = _; rw [Hx.out, List.take_of_length_le (by rw [HL.out]; omega)]
        have e5 : x < 9223372036854775808 := by have := HK.out s.size; rw [← Hx.out] at this; exact this
        have E5 := Lib.hid e5; clear e5
        go_wp2_with fail
        go_ret2
        refine ⟨.inl ⟨⟨by rw [HL.out]; omega, by rw [HL.out]; omega, by rw [← e4.out]; exact E5.out⟩, ?_⟩, rfl⟩
        rw [← e4.out]; rfl

end Go.Proofs.YtppdboadjefieaaGreat

namespace Go.Proofs.YtppdboadjefieaaGreat
open Go

theorem beNum_beBytes (w n : Nat) (h : n < 256 ^ w) : beNum (beBytes w n) = n := by
  induction w generalizing n with
  | zero => simp at h; subst h; rfl
  | succ w ih =>
    unfold beBytes
    rw [beNum_snoc, ih (n / 256) (by rw [Nat.pow_succ] at h; omega)]
    have : (UInt8.ofNat (n % 256)).toNat = n % 256 := by simp [UInt8.toNat_ofNat']
    rw [this]
    omega
def cutS (l : List UInt8) : Option (List UInt8 × List UInt8) :=
  if l.length < 4 ∨ l.length - 4 < beNum (l.take 4) then none else some ((l.drop 4).take (beNum (l.take 4)), (l.drop 4).drop (beNum (l.take 4)))
theorem cutS_text {t s : List UInt8} (h : t.length < 4294967296) : cutS (textL t ++ s) = some (t, s) := by
  have e1 : (textL t ++ s).take 4 = beBytes 4 t.length := by
    unfold textL
    rw [List.append_assoc, List.take_append_of_le_length (by rw [beBytes_length]; omega), List.take_of_length_le (by rw [beBytes_length]; omega)]
  have e2 : (textL t ++ s).drop 4 = t ++ s := by
    unfold textL
    rw [List.append_assoc, List.drop_append_of_le_length (by rw [beBytes_length]; omega), List.drop_of_length_le (by rw [beBytes_length]; omega), List.nil_append]
  unfold cutS
  rw [e1, e2, beNum_beBytes 4 t.length (by simpa using h)]
  have e3 : (textL t ++ s).length = 4 + t.length + s.length := by unfold textL; simp [beBytes_length]; omega
  rw [if_neg (by rw [e3]; omega)]
  simp
def getOk (l : List UInt8) : Bool := decide (1 ≤ l.length) && decide (l.length ≤ 8) && decide (beNum l < 9223372036854775808)
theorem getOk_iff {l : List UInt8} : getOk l = true ↔ (1 ≤ l.length ∧ l.length ≤ 8 ∧ beNum l < 9223372036854775808) := by simp [getOk, and_assoc]
def unpackS : List Nat → List UInt8 → Option (List Int)
  | [], _ => some []
  | w :: ws, l => if getOk (l.take w) then (unpackS ws (l.drop w)).map (((beNum (l.take w) : Nat) : Int) :: ·) else none
end Go.Proofs.YtppdboadjefieaaGreat

namespace Go.Proofs.YtppdboadjefieaaGreat
open Go

structure GeoD where
  blocks : Int
  lbas : Int
  first : Int
deriving DecidableEq
def GeoD.cells (g : GeoD) : List Value := [.int .i64 g.blocks, .int .i64 g.lbas, .int .i64 g.first]
def GeoD.v (g : GeoD) : Value := .agg #[.int .i64 g.blocks, .int .i64 g.lbas, .int .i64 g.first]
def GeoD.zero : GeoD := ⟨0, 0, 0⟩
structure GeoOk (g : GeoD) : Prop where
  b0 : 8 ≤ g.blocks
  b1 : g.blocks ≤ 1024
  l0 : 1 ≤ g.lbas
  l1 : g.lbas ≤ 4096
  f0 : 0 ≤ g.first
  f1 : g.first < 4294967296
def geoL (g : GeoD) : List UInt8 := beBytes 4 g.blocks.toNat ++ beBytes 4 g.lbas.toNat ++ beBytes 4 g.first.toNat
theorem geoL_length (g : GeoD) : (geoL g).length = 12 := by unfold geoL; simp [beBytes_length]
structure SupD where
  gen : Int
  tail : Int
  epoch : Int
  clock : Int
  geo : GeoD
deriving DecidableEq
def SupD.cells (s : SupD) : List Value := [.int .i64 s.gen, .int .i64 s.tail, .int .i64 s.epoch, .int .i64 s.clock, .int .i64 s.geo.blocks, .int .i64 s.geo.lbas, .int .i64 s.geo.first]
def SupD.v (s : SupD) : Value := .agg #[.int .i64 s.gen, .int .i64 s.tail, .int .i64 s.epoch, .int .i64 s.clock, .int .i64 s.geo.blocks, .int .i64 s.geo.lbas, .int .i64 s.geo.first]
def SupD.zero : SupD := ⟨0, 0, 0, 0, .zero⟩
structure SupOk (s : SupD) : Prop where
  geo : GeoOk s.geo
  g0 : 1 ≤ s.gen
  g1 : s.gen ≤ 1152921504606846976
  t0 : 0 ≤ s.tail
  t1 : s.tail ≤ s.geo.blocks - 4
  e0 : s.geo.first ≤ s.epoch
  e1 : s.epoch < 4294967296
  c0 : 0 ≤ s.clock
  c1 : s.clock ≤ 1099511627776
def markS : List UInt8 := [107, 101, 101, 112, 115, 97, 107, 101, 49]
def supHead (s : SupD) : List UInt8 := markS ++ (beBytes 8 s.gen.toNat ++ beBytes 4 s.tail.toNat ++ beBytes 4 s.epoch.toNat ++ beBytes 8 s.clock.toNat) ++ geoL s.geo
theorem supHead_length (s : SupD) : (supHead s).length = 45 := by unfold supHead markS; simp [beBytes_length, geoL_length]
def fillL (l : List UInt8) (n : Nat) : List UInt8 := l ++ List.replicate (n - l.length) 0
theorem fillL_length {l : List UInt8} {n : Nat} (h : l.length ≤ n) : (fillL l n).length = n := by unfold fillL; simp; omega
def supL (s : SupD) : List UInt8 := fillL (supHead s ++ sha (supHead s)) 4096
theorem supL_length (s : SupD) : (supL s).length = 4096 := fillL_length (by rw [List.length_append, supHead_length, sha_length]; decide)
theorem take_app {a b : List UInt8} {n : Nat} (h : a.length = n) : (a ++ b).take n = a := by subst h; exact List.take_left
theorem drop_app {a b : List UInt8} {n : Nat} (h : a.length = n) : (a ++ b).drop n = b := by subst h; exact List.drop_left
def markK : List UInt8 := [107, 101, 121]
def keyHead (epoch : Int) (key : List UInt8) : List UInt8 := markK ++ beBytes 4 epoch.toNat ++ key
def keyL (epoch : Int) (key : List UInt8) : List UInt8 := fillL (keyHead epoch key ++ sha (keyHead epoch key)) 4096
theorem keyL_length {epoch : Int} {key : List UInt8} (h : key.length = 32) : (keyL epoch key).length = 4096 := fillL_length (by rw [List.length_append, sha_length]; unfold keyHead markK; simp [beBytes_length, h])
end Go.Proofs.YtppdboadjefieaaGreat

namespace Go.Proofs.YtppdboadjefieaaGreat
open Go Go.RowKit

theorem ret_b {a b : Bool} (h : a = b) : Ending.returned (Value.bool a) = Ending.returned (Value.bool b) := by rw [h]
theorem ret_i {a b : Int} (h : a = b) : Ending.returned (Value.int .i64 a) = Ending.returned (Value.int .i64 b) := by rw [h]
theorem isEmpty_size (s : ByteArray) : s.toList.isEmpty = decide (s.size = 0) := by
  by_cases h : s.size = 0
  · rw [emptyText (s := s) (by omega)]; simp [h]
  · rw [someText (s := s) (by omega)]; simp [h]

theorem within_walk (n m : Int) (w : World) :
    Calls Tryz.prog 315 #[.int .i64 n, .int .i64 m] w fun e w' => e = .returned (.bool (decide (0 ≤ n) && decide (n ≤ m))) ∧ w = w' := by
  go_enter Tryz.func315, Tryz.ntmps315
  go_wp2_with fail
  all_goals go_ret
  all_goals refine ⟨ret_b ?_, rfl⟩
  all_goals simp
  all_goals omega

theorem name_byte (c : UInt8) : nameByte c = false ↔ ((c.toNat < 97 ∨ 122 < c.toNat) ∧ (c.toNat < 48 ∨ 57 < c.toNat)) := by
  unfold nameByte
  simp
  omega

theorem all_take (l : List UInt8) (k : Nat) (c : UInt8) (hc : l[k]? = some c) : (l.take (k + 1)).all nameByte = ((l.take k).all nameByte && nameByte c) := by
  obtain ⟨h1, rfl⟩ := List.getElem?_eq_some_iff.1 hc
  rw [List.take_succ_eq_append_getElem h1, List.all_append]
  simp
theorem all_no {l : List UInt8} {k : Nat} {c : UInt8} (hc : l[k]? = some c) (h : nameByte c = false) : l.all nameByte = false := by
  rw [List.all_eq_false]
  exact ⟨c, List.mem_of_getElem? hc, by rw [h]; decide⟩

set_option maxRecDepth 100000 in
set_option maxHeartbeats 1000000 in
theorem name_walk (s : ByteArray) (w : World) (hs : s.size ≤ 1073741824) :
    Calls Tryz.prog 88 #[.string s] w fun e w' => e = .returned (.bool (nameOk s.data.toList)) ∧ w = w' := by
  have hl : s.data.toList.length = s.size := rfl
  have HL := Lib.hid hl; clear hl
  by_cases c0 : s.size = 0
  · have d0 := emptyText (s := s) (by omega)
    have HD := Lib.hid c0; clear c0
    go_enter Tryz.func88, Tryz.ntmps88
    go_wp2_with fail
    go_loop [6] (fun i => i = .int .i64 0) (fun _ => 0)
    case atStart => rfl
    case round =>
      subst hrel
      have hz : (s.size : Int) ≤ 0 := by have := HD.out; omega
      go_wp2_with fail
      go_ret
      exact ⟨ret_b (by unfold nameOk; rw [HL.out, HD.out]; rfl), rfl⟩
  have d0 := someText (s := s) (by omega)
  go_enter Tryz.func88, Tryz.ntmps88
  go_wp2_with fail
  go_loop [6] (fun i => ∃ k : Nat, k ≤ s.size ∧ i = .int .i64 k ∧ (s.data.toList.take k).all nameByte = true) (fun i => s.size - (intOf i).toNat)
  case atStart => exact ⟨0, by omega, rfl, rfl⟩
  case round =>
    obtain ⟨k, hk, rfl, hall⟩ := hrel
    have HA := Lib.hid hall; clear hall
    by_cases hlt : k < s.size
    · have hlt' : (k : Int) < s.size := by omega
      obtain ⟨c, hc⟩ : ∃ c, s[k] = c := ⟨_, rfl⟩
      have hck : s.data.toList[k]? = some c := by rw [List.getElem?_eq_getElem (by rw [HL.out]; exact hlt), ← hc]; rfl
      have HC := Lib.hid hck; clear hck
      have hc8 := c.toNat_lt
      go_wp2_with fail
      all_goals try (
        go_round
        case rel =>
          refine ⟨k + 1, by omega, by go_num, ?_⟩
          rw [all_take _ _ _ HC.out, HA.out]
          simp only [Bool.true_and]
          cases hb : nameByte c with
          | true => rfl
          | false => rw [name_byte] at hb; exfalso; simp_all; omega
        case measure => simp [intOf]; omega)
      all_goals
        go_ret
        refine ⟨ret_b ?_, rfl⟩
        have hno : nameByte c = false := by rw [name_byte]; simp_all; omega
        unfold nameOk
        rw [all_no HC.out hno]
        simp
    · obtain rfl : k = s.size := by omega
      go_wp2_with fail
      all_goals go_ret
      all_goals refine ⟨ret_b ?_, rfl⟩
      all_goals
        have hall := HA.out
        rw [List.take_of_length_le (by rw [HL.out]; omega)] at hall
        unfold nameOk
        rw [hall, HL.out]
        rw [show decide ((s.size : Int) ≤ 16) = decide (s.size ≤ 16) from decide_eq_decide.2 (by omega), decide_eq_true (show 1 ≤ s.size by omega)]
        simp

end Go.Proofs.YtppdboadjefieaaGreat
namespace Go.Proofs.YtppdboadjefieaaGreat
open Go Go.RowKit

set_option maxRecDepth 100000 in
set_option maxHeartbeats 4000000 in
theorem rest_1 (epoch time count target till : Int) (root name : ByteArray) (w : World) (hname : name.size ≤ 1073741824) (E1 : Int) (hE1 : wrap64 (epoch - 1) = E1) :
    Calls Tryz.prog 314 #[.agg #[.int .i64 1, .int .i64 epoch, .int .i64 time, .int .i64 count, .int .i64 target, .int .i64 till, .string root, .string name]] w
      fun e w' => e = .returned (.tuple #[.agg #[.int .i64 0, .int .i64 0, .int .i64 0, .int .i64 0, .int .i64 target, .int .i64 till, .string ⟨#[]⟩, .string name], .bool ((decide (0 ≤ count) && decide (count ≤ 4096)) && decide (root.size = 32))]) ∧ Below w.heap.size w w' := by
  have z3 : ((root.size : Int) == 32) = decide (root.size = 32) := by rw [Bool.eq_iff_iff]; simp; omega
  go_enter Tryz.func314, Tryz.ntmps314
  go_wp2_with (first | (go_at_call 315; refine (within_walk _ _ _).mono ?_; rintro e w1 ⟨rfl, rfl⟩) | (go_at_call 88; refine (name_walk _ _ hname).mono ?_; rintro e w1 ⟨rfl, rfl⟩))
  all_goals go_region
  all_goals go_wp2_with fail
  all_goals (refine bodyPost_ret (v := .tuple #[.agg #[.int .i64 0, .int .i64 0, .int .i64 0, .int .i64 0, .int .i64 target, .int .i64 till, .string ⟨#[]⟩, .string name], .bool ((decide (0 ≤ count) && decide (count ≤ 4096)) && decide (root.size = 32))]) ?_ rfl ⟨rfl, ?_⟩)
  all_goals first
    | (simp [results, Tryz.results314, go_sem]; done)
    | (simp [results, Tryz.results314, go_sem]; omega)
    | (simp [results, Tryz.results314, go_sem, *]; done)
    | skip
  all_goals try (repeat (first | exact Below.refl _ _ | assumption | (with_reducible refine Below.drew ?_) | (with_reducible refine Below.setCell ?_ ?_ _) | (with_reducible refine Below.alloc ?_ ?_ _)))
  all_goals try (simp; done)
  all_goals try (simp; omega)

set_option maxRecDepth 100000 in
set_option maxHeartbeats 4000000 in
theorem rest_2 (epoch time count target till : Int) (root name : ByteArray) (w : World) (hname : name.size ≤ 1073741824) (E1 : Int) (hE1 : wrap64 (epoch - 1) = E1) :
    Calls Tryz.prog 314 #[.agg #[.int .i64 2, .int .i64 epoch, .int .i64 time, .int .i64 count, .int .i64 target, .int .i64 till, .string root, .string name]] w
      fun e w' => e = .returned (.tuple #[.agg #[.int .i64 0, .int .i64 0, .int .i64 0, .int .i64 count, .int .i64 0, .int .i64 0, .string root, .string name], .bool ((decide (0 ≤ till) && decide (till ≤ 1099511627776)) && (decide (0 ≤ target) && decide (target ≤ E1)))]) ∧ Below w.heap.size w w' := by
  skip
  go_enter Tryz.func314, Tryz.ntmps314
  go_wp2_with (first | (go_at_call 315; refine (within_walk _ _ _).mono ?_; rintro e w1 ⟨rfl, rfl⟩) | (go_at_call 88; refine (name_walk _ _ hname).mono ?_; rintro e w1 ⟨rfl, rfl⟩))
  all_goals (go_in; go_wp2_with (first | (go_at_call 315; refine (within_walk _ _ _).mono ?_; rintro e w1 ⟨rfl, rfl⟩) | (go_at_call 88; refine (name_walk _ _ hname).mono ?_; rintro e w1 ⟨rfl, rfl⟩)))
  all_goals go_region
  all_goals go_wp2_with fail
  all_goals (refine bodyPost_ret (v := .tuple #[.agg #[.int .i64 0, .int .i64 0, .int .i64 0, .int .i64 count, .int .i64 0, .int .i64 0, .string root, .string name], .bool ((decide (0 ≤ till) && decide (till ≤ 1099511627776)) && (decide (0 ≤ target) && decide (target ≤ E1)))]) ?_ rfl ⟨rfl, ?_⟩)
  all_goals first
    | (simp [results, Tryz.results314, go_sem]; done)
    | (simp [results, Tryz.results314, go_sem]; omega)
    | (simp [results, Tryz.results314, go_sem, *]; done)
    | skip
  all_goals try (repeat (first | exact Below.refl _ _ | assumption | (with_reducible refine Below.drew ?_) | (with_reducible refine Below.setCell ?_ ?_ _) | (with_reducible refine Below.alloc ?_ ?_ _)))
  all_goals try (simp; done)
  all_goals try (simp; omega)

set_option maxRecDepth 100000 in
set_option maxHeartbeats 4000000 in
theorem rest_5 (epoch time count target till : Int) (root name : ByteArray) (w : World) (hname : name.size ≤ 1073741824) (E1 : Int) (hE1 : wrap64 (epoch - 1) = E1) :
    Calls Tryz.prog 314 #[.agg #[.int .i64 5, .int .i64 epoch, .int .i64 time, .int .i64 count, .int .i64 target, .int .i64 till, .string root, .string name]] w
      fun e w' => e = .returned (.tuple #[.agg #[.int .i64 0, .int .i64 0, .int .i64 0, .int .i64 count, .int .i64 0, .int .i64 0, .string root, .string name], .bool ((decide (0 ≤ till) && decide (till ≤ 1099511627776)) && (decide (0 ≤ target) && decide (target ≤ E1)))]) ∧ Below w.heap.size w w' := by
  skip
  go_enter Tryz.func314, Tryz.ntmps314
  go_wp2_with (first | (go_at_call 315; refine (within_walk _ _ _).mono ?_; rintro e w1 ⟨rfl, rfl⟩) | (go_at_call 88; refine (name_walk _ _ hname).mono ?_; rintro e w1 ⟨rfl, rfl⟩))
  all_goals (go_in; go_wp2_with (first | (go_at_call 315; refine (within_walk _ _ _).mono ?_; rintro e w1 ⟨rfl, rfl⟩) | (go_at_call 88; refine (name_walk _ _ hname).mono ?_; rintro e w1 ⟨rfl, rfl⟩)))
  all_goals go_region
  all_goals go_wp2_with fail
  all_goals (refine bodyPost_ret (v := .tuple #[.agg #[.int .i64 0, .int .i64 0, .int .i64 0, .int .i64 count, .int .i64 0, .int .i64 0, .string root, .string name], .bool ((decide (0 ≤ till) && decide (till ≤ 1099511627776)) && (decide (0 ≤ target) && decide (target ≤ E1)))]) ?_ rfl ⟨rfl, ?_⟩)
  all_goals first
    | (simp [results, Tryz.results314, go_sem]; done)
    | (simp [results, Tryz.results314, go_sem]; omega)
    | (simp [results, Tryz.results314, go_sem, *]; done)
    | skip
  all_goals try (repeat (first | exact Below.refl _ _ | assumption | (with_reducible refine Below.drew ?_) | (with_reducible refine Below.setCell ?_ ?_ _) | (with_reducible refine Below.alloc ?_ ?_ _)))
  all_goals try (simp; done)
  all_goals try (simp; omega)

set_option maxRecDepth 100000 in
set_option maxHeartbeats 4000000 in
theorem rest_3 (epoch time count target till : Int) (root name : ByteArray) (w : World) (hname : name.size ≤ 1073741824) (E1 : Int) (hE1 : wrap64 (epoch - 1) = E1) :
    Calls Tryz.prog 314 #[.agg #[.int .i64 3, .int .i64 epoch, .int .i64 time, .int .i64 count, .int .i64 target, .int .i64 till, .string root, .string name]] w
      fun e w' => e = .returned (.tuple #[.agg #[.int .i64 0, .int .i64 0, .int .i64 0, .int .i64 count, .int .i64 0, .int .i64 till, .string root, .string ⟨#[]⟩], .bool ((decide (0 ≤ target) && decide (target ≤ E1)) && nameOk name.data.toList)]) ∧ Below w.heap.size w w' := by
  skip
  go_enter Tryz.func314, Tryz.ntmps314
  go_wp2_with (first | (go_at_call 315; refine (within_walk _ _ _).mono ?_; rintro e w1 ⟨rfl, rfl⟩) | (go_at_call 88; refine (name_walk _ _ hname).mono ?_; rintro e w1 ⟨rfl, rfl⟩))
  all_goals (go_in; go_wp2_with (first | (go_at_call 315; refine (within_walk _ _ _).mono ?_; rintro e w1 ⟨rfl, rfl⟩) | (go_at_call 88; refine (name_walk _ _ hname).mono ?_; rintro e w1 ⟨rfl, rfl⟩)))
  all_goals go_region
  all_goals go_wp2_with fail
  all_goals (refine bodyPost_ret (v := .tuple #[.agg #[.int .i64 0, .int .i64 0, .int .i64 0, .int .i64 count, .int .i64 0, .int .i64 till, .string root, .string ⟨#[]⟩], .bool ((decide (0 ≤ target) && decide (target ≤ E1)) && nameOk name.data.toList)]) ?_ rfl ⟨rfl, ?_⟩)
  all_goals first
    | (simp [results, Tryz.results314, go_sem]; done)
    | (simp [results, Tryz.results314, go_sem]; omega)
    | (simp [results, Tryz.results314, go_sem, *]; done)
    | skip
  all_goals try (repeat (first | exact Below.refl _ _ | assumption | (with_reducible refine Below.drew ?_) | (with_reducible refine Below.setCell ?_ ?_ _) | (with_reducible refine Below.alloc ?_ ?_ _)))
  all_goals try (simp; done)
  all_goals try (simp; omega)

set_option maxRecDepth 100000 in
set_option maxHeartbeats 4000000 in
theorem rest_4 (epoch time count target till : Int) (root name : ByteArray) (w : World) (hname : name.size ≤ 1073741824) (E1 : Int) (hE1 : wrap64 (epoch - 1) = E1) :
    Calls Tryz.prog 314 #[.agg #[.int .i64 4, .int .i64 epoch, .int .i64 time, .int .i64 count, .int .i64 target, .int .i64 till, .string root, .string name]] w
      fun e w' => e = .returned (.tuple #[.agg #[.int .i64 0, .int .i64 0, .int .i64 0, .int .i64 count, .int .i64 target, .int .i64 till, .string root, .string ⟨#[]⟩], .bool (nameOk name.data.toList)]) ∧ Below w.heap.size w w' := by
  skip
  go_enter Tryz.func314, Tryz.ntmps314
  go_wp2_with (first | (go_at_call 315; refine (within_walk _ _ _).mono ?_; rintro e w1 ⟨rfl, rfl⟩) | (go_at_call 88; refine (name_walk _ _ hname).mono ?_; rintro e w1 ⟨rfl, rfl⟩))
  all_goals go_region
  all_goals go_wp2_with fail
  all_goals (refine bodyPost_ret (v := .tuple #[.agg #[.int .i64 0, .int .i64 0, .int .i64 0, .int .i64 count, .int .i64 target, .int .i64 till, .string root, .string ⟨#[]⟩], .bool (nameOk name.data.toList)]) ?_ rfl ⟨rfl, ?_⟩)
  all_goals first
    | (simp [results, Tryz.results314, go_sem]; done)
    | (simp [results, Tryz.results314, go_sem]; omega)
    | (simp [results, Tryz.results314, go_sem, *]; done)
    | skip
  all_goals try (repeat (first | exact Below.refl _ _ | assumption | (with_reducible refine Below.drew ?_) | (with_reducible refine Below.setCell ?_ ?_ _) | (with_reducible refine Below.alloc ?_ ?_ _)))
  all_goals try (simp; done)
  all_goals try (simp; omega)

set_option maxRecDepth 100000 in
set_option maxHeartbeats 4000000 in
theorem rest_o (kind epoch time count target till : Int) (root name : ByteArray) (w : World) (hname : name.size ≤ 1073741824) (E1 : Int) (hE1 : wrap64 (epoch - 1) = E1) (k1 : ¬ kind = 1) (k2 : ¬ kind = 2) (k5 : ¬ kind = 5) (k3 : ¬ kind = 3) (k4 : ¬ kind = 4) :
    Calls Tryz.prog 314 #[.agg #[.int .i64 kind, .int .i64 epoch, .int .i64 time, .int .i64 count, .int .i64 target, .int .i64 till, .string root, .string name]] w
      fun e w' => e = .returned (.tuple #[.agg #[.int .i64 0, .int .i64 0, .int .i64 0, .int .i64 count, .int .i64 target, .int .i64 till, .string root, .string name], .bool (false)]) ∧ Below w.heap.size w w' := by
  skip
  go_enter Tryz.func314, Tryz.ntmps314
  go_wp2_with (first | (go_at_call 315; refine (within_walk _ _ _).mono ?_; rintro e w1 ⟨rfl, rfl⟩) | (go_at_call 88; refine (name_walk _ _ hname).mono ?_; rintro e w1 ⟨rfl, rfl⟩))
  all_goals go_region
  all_goals go_wp2_with fail
  all_goals (refine bodyPost_ret (v := .tuple #[.agg #[.int .i64 0, .int .i64 0, .int .i64 0, .int .i64 count, .int .i64 target, .int .i64 till, .string root, .string name], .bool (false)]) ?_ rfl ⟨rfl, ?_⟩)
  all_goals first
    | (simp [results, Tryz.results314, go_sem]; done)
    | (simp [results, Tryz.results314, go_sem]; omega)
    | (simp [results, Tryz.results314, go_sem, *]; done)
    | skip
  all_goals try (repeat (first | exact Below.refl _ _ | assumption | (with_reducible refine Below.drew ?_) | (with_reducible refine Below.setCell ?_ ?_ _) | (with_reducible refine Below.alloc ?_ ?_ _)))
  all_goals try (simp; done)
  all_goals try (simp; omega)
end Go.Proofs.YtppdboadjefieaaGreat

