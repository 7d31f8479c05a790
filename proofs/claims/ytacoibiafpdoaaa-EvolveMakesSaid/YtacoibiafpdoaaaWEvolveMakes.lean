/- Walk of EvolveMakes: for every key and every number the law returns true: what is made is as the documents say. No condition. -/
import Derived.Test.YtacoibiafpdoaaaRef11
import Derived.Test.YtacoibiafpdoaaaOpen
namespace Go.Proofs.Ytacoibiafpdoaaa
open Go Go.RowKit
set_option linter.unusedVariables false

set_option maxHeartbeats 2000000 in
theorem makes_yes_lo (k : ByteArray) (first : Int) (w : World) (c1 : (k.size : Int) ≤ 1000) (c2 : (k.size : Int) = 32) (c3 : first < 0) :
    Calls Try.prog 20 #[.string k, .int .i64 first] w fun e w' => e = .returned (.bool true) ∧ Below w.heap.size w w' := by
  have hkl : k.data.toList.length = k.size := rfl
  have HKL := Lib.hid hkl; clear hkl
  go_enter Try.func20, Try.ntmps20
  go_wp2_with fail
  refine (firstKey_walk k first _).mono ?_
  rintro e w1 ⟨he, hb1⟩
  obtain he := he.no (by omega)
  subst he
  go_wp2_with fail
  refine (nextKey_walk k _).mono ?_
  rintro e w2 ⟨he, hb2⟩
  obtain ⟨b, rfl, tb⟩ := he.yes (by omega)
  clear he
  go_wp2_with fail
  refine (macKey_walk k _).mono ?_
  rintro e w3 ⟨he, hb3⟩
  obtain ⟨c, rfl, tc⟩ := he.yes (by omega)
  clear he
  go_wp2_with fail
  refine (askKey_walk k _).mono ?_
  rintro e w4 ⟨he, hb4⟩
  obtain ⟨d, rfl, td⟩ := he.yes (by omega)
  clear he
  go_wp2_with fail
  refine (dataKey_walk k _).mono ?_
  rintro e w5 ⟨he, hb5⟩
  obtain ⟨x, rfl, tx⟩ := he.yes (by omega)
  clear he
  go_wp2_with ((with_reducible refine wpList_slice_new 54 3 1 ?parts [.int .i64 first] (.int .i64 0) 1 8 (some 58) Try.underlying54 infoInt (by omega) (by omega) ?hgd ?ho ?hd ?hf ?_); (case hgd => rfl); (case ho => rfl); (case hd => rfl); (case hf => kernel_rfl); (intro g w6 l6 B6 e6 z6))
  refine (rmade_walk k sealB _ [first] _ (IntRow.blk (xs := [first]) B6 rfl 1) ?_ (by simp)).mono ?_
  · intro j x hx
    cases j with
    | zero => simp at hx; omega
    | succ j => simp at hx
  rintro e w7 ⟨he, hb7⟩
  obtain he := he.no (fun h => by have := h.2; simp [saidOk, sealB] at this; omega)
  subst he
  clear B6
  go_wp2_with fail
  refine (rmade_walk k nextB _ [] _ (IntRow.nil _) (fun j x h => by simp at h) (by simp)).mono ?_
  rintro e w8 ⟨he, hb8⟩
  obtain ⟨v, rfl, tv⟩ := he.yes (by rw [HKL.out]; omega) (by decide)
  clear he
  go_wp2_with fail
  refine (rmade_walk k macB _ [] _ (IntRow.nil _) (fun j x h => by simp at h) (by simp)).mono ?_
  rintro e w9 ⟨he, hb9⟩
  obtain ⟨p, rfl, tp⟩ := he.yes (by rw [HKL.out]; omega) (by decide)
  clear he
  go_wp2_with fail
  refine (rmade_walk k askB _ [] _ (IntRow.nil _) (fun j x h => by simp at h) (by simp)).mono ?_
  rintro e w10 ⟨he, hb10⟩
  obtain ⟨y, rfl, ty⟩ := he.yes (by rw [HKL.out]; omega) (by decide)
  clear he
  go_wp2_with fail
  refine (rdata_walk k _).mono ?_
  rintro e w11 ⟨⟨_, z, rfl, tz⟩ | ⟨hno, _⟩, hb11⟩
  rotate_left
  · exact absurd (by rw [HKL.out]; omega) hno
  go_wp2_with fail
  refine (is18_no _).mono ?_
  rintro e w' ⟨rfl, rfl⟩
  go_wp2_with fail
  refine (is18_yes b v _ (tb.same tv rfl)).mono ?_
  rintro e w' ⟨rfl, rfl⟩
  go_wp2_with fail
  refine (is18_yes c p _ (tc.same tp rfl)).mono ?_
  rintro e w' ⟨rfl, rfl⟩
  go_wp2_with fail
  refine (is18_yes d y _ (td.same ty rfl)).mono ?_
  rintro e w' ⟨rfl, rfl⟩
  go_wp2_with fail
  refine (is18_yes x z _ (tx.same tz rfl)).mono ?_
  rintro e w' ⟨rfl, rfl⟩
  go_wp2_with fail
  refine (alive18 _).mono ?_
  rintro e w12 ⟨rfl, hb12⟩
  go_wp2_with fail
  go_ret
  exact ⟨rfl, (bt hb1 (bt hb2 (bt hb3 (bt hb4 (bt hb5 (bt (e6.mono l6) (bt hb7 (bt hb8 (bt hb9 (bt hb10 (bt hb11 hb12)))))))))))⟩

set_option maxHeartbeats 2000000 in
theorem makes_yes_in (k : ByteArray) (first : Int) (w : World) (c1 : (k.size : Int) ≤ 1000) (c2 : (k.size : Int) = 32) (c3 : 0 ≤ first) (c4 : first ≤ 4294967295) :
    Calls Try.prog 20 #[.string k, .int .i64 first] w fun e w' => e = .returned (.bool true) ∧ Below w.heap.size w w' := by
  have hkl : k.data.toList.length = k.size := rfl
  have HKL := Lib.hid hkl; clear hkl
  go_enter Try.func20, Try.ntmps20
  go_wp2_with fail
  refine (firstKey_walk k first _).mono ?_
  rintro e w1 ⟨he, hb1⟩
  obtain ⟨a, rfl, ta⟩ := he.yes (by omega)
  clear he
  go_wp2_with fail
  refine (nextKey_walk k _).mono ?_
  rintro e w2 ⟨he, hb2⟩
  obtain ⟨b, rfl, tb⟩ := he.yes (by omega)
  clear he
  go_wp2_with fail
  refine (macKey_walk k _).mono ?_
  rintro e w3 ⟨he, hb3⟩
  obtain ⟨c, rfl, tc⟩ := he.yes (by omega)
  clear he
  go_wp2_with fail
  refine (askKey_walk k _).mono ?_
  rintro e w4 ⟨he, hb4⟩
  obtain ⟨d, rfl, td⟩ := he.yes (by omega)
  clear he
  go_wp2_with fail
  refine (dataKey_walk k _).mono ?_
  rintro e w5 ⟨he, hb5⟩
  obtain ⟨x, rfl, tx⟩ := he.yes (by omega)
  clear he
  go_wp2_with ((with_reducible refine wpList_slice_new 54 3 1 ?parts [.int .i64 first] (.int .i64 0) 1 8 (some 58) Try.underlying54 infoInt (by omega) (by omega) ?hgd ?ho ?hd ?hf ?_); (case hgd => rfl); (case ho => rfl); (case hd => rfl); (case hf => kernel_rfl); (intro g w6 l6 B6 e6 z6))
  refine (rmade_walk k sealB _ [first] _ (IntRow.blk (xs := [first]) B6 rfl 1) ?_ (by simp)).mono ?_
  · intro j x hx
    cases j with
    | zero => simp at hx; omega
    | succ j => simp at hx
  rintro e w7 ⟨he, hb7⟩
  obtain ⟨u, rfl, tu⟩ := he.yes (by rw [HKL.out]; omega) (by simp [saidOk, sealB]; omega)
  clear he
  clear B6
  go_wp2_with fail
  refine (rmade_walk k nextB _ [] _ (IntRow.nil _) (fun j x h => by simp at h) (by simp)).mono ?_
  rintro e w8 ⟨he, hb8⟩
  obtain ⟨v, rfl, tv⟩ := he.yes (by rw [HKL.out]; omega) (by decide)
  clear he
  go_wp2_with fail
  refine (rmade_walk k macB _ [] _ (IntRow.nil _) (fun j x h => by simp at h) (by simp)).mono ?_
  rintro e w9 ⟨he, hb9⟩
  obtain ⟨p, rfl, tp⟩ := he.yes (by rw [HKL.out]; omega) (by decide)
  clear he
  go_wp2_with fail
  refine (rmade_walk k askB _ [] _ (IntRow.nil _) (fun j x h => by simp at h) (by simp)).mono ?_
  rintro e w10 ⟨he, hb10⟩
  obtain ⟨y, rfl, ty⟩ := he.yes (by rw [HKL.out]; omega) (by decide)
  clear he
  go_wp2_with fail
  refine (rdata_walk k _).mono ?_
  rintro e w11 ⟨⟨_, z, rfl, tz⟩ | ⟨hno, _⟩, hb11⟩
  rotate_left
  · exact absurd (by rw [HKL.out]; omega) hno
  go_wp2_with fail
  refine (is18_yes a u _ (ta.same tu rfl)).mono ?_
  rintro e w' ⟨rfl, rfl⟩
  go_wp2_with fail
  refine (is18_yes b v _ (tb.same tv rfl)).mono ?_
  rintro e w' ⟨rfl, rfl⟩
  go_wp2_with fail
  refine (is18_yes c p _ (tc.same tp rfl)).mono ?_
  rintro e w' ⟨rfl, rfl⟩
  go_wp2_with fail
  refine (is18_yes d y _ (td.same ty rfl)).mono ?_
  rintro e w' ⟨rfl, rfl⟩
  go_wp2_with fail
  refine (is18_yes x z _ (tx.same tz rfl)).mono ?_
  rintro e w' ⟨rfl, rfl⟩
  go_wp2_with fail
  refine (alive18 _).mono ?_
  rintro e w12 ⟨rfl, hb12⟩
  go_wp2_with fail
  go_ret
  exact ⟨rfl, (bt hb1 (bt hb2 (bt hb3 (bt hb4 (bt hb5 (bt (e6.mono l6) (bt hb7 (bt hb8 (bt hb9 (bt hb10 (bt hb11 hb12)))))))))))⟩

set_option maxHeartbeats 2000000 in
theorem makes_yes_hi (k : ByteArray) (first : Int) (w : World) (c1 : (k.size : Int) ≤ 1000) (c2 : (k.size : Int) = 32) (c3 : 0 ≤ first) (c4 : 4294967295 < first) (c5 : first < 9223372036854775808) :
    Calls Try.prog 20 #[.string k, .int .i64 first] w fun e w' => e = .returned (.bool true) ∧ Below w.heap.size w w' := by
  have hkl : k.data.toList.length = k.size := rfl
  have HKL := Lib.hid hkl; clear hkl
  go_enter Try.func20, Try.ntmps20
  go_wp2_with fail
  refine (firstKey_walk k first _).mono ?_
  rintro e w1 ⟨he, hb1⟩
  obtain he := he.no (by omega)
  subst he
  go_wp2_with fail
  refine (nextKey_walk k _).mono ?_
  rintro e w2 ⟨he, hb2⟩
  obtain ⟨b, rfl, tb⟩ := he.yes (by omega)
  clear he
  go_wp2_with fail
  refine (macKey_walk k _).mono ?_
  rintro e w3 ⟨he, hb3⟩
  obtain ⟨c, rfl, tc⟩ := he.yes (by omega)
  clear he
  go_wp2_with fail
  refine (askKey_walk k _).mono ?_
  rintro e w4 ⟨he, hb4⟩
  obtain ⟨d, rfl, td⟩ := he.yes (by omega)
  clear he
  go_wp2_with fail
  refine (dataKey_walk k _).mono ?_
  rintro e w5 ⟨he, hb5⟩
  obtain ⟨x, rfl, tx⟩ := he.yes (by omega)
  clear he
  go_wp2_with ((with_reducible refine wpList_slice_new 54 3 1 ?parts [.int .i64 first] (.int .i64 0) 1 8 (some 58) Try.underlying54 infoInt (by omega) (by omega) ?hgd ?ho ?hd ?hf ?_); (case hgd => rfl); (case ho => rfl); (case hd => rfl); (case hf => kernel_rfl); (intro g w6 l6 B6 e6 z6))
  refine (rmade_walk k sealB _ [first] _ (IntRow.blk (xs := [first]) B6 rfl 1) ?_ (by simp)).mono ?_
  · intro j x hx
    cases j with
    | zero => simp at hx; omega
    | succ j => simp at hx
  rintro e w7 ⟨he, hb7⟩
  obtain ⟨u, rfl, tu⟩ := he.yes (by rw [HKL.out]; omega) (by simp [saidOk, sealB]; omega)
  clear he
  clear B6
  go_wp2_with fail
  refine (rmade_walk k nextB _ [] _ (IntRow.nil _) (fun j x h => by simp at h) (by simp)).mono ?_
  rintro e w8 ⟨he, hb8⟩
  obtain ⟨v, rfl, tv⟩ := he.yes (by rw [HKL.out]; omega) (by decide)
  clear he
  go_wp2_with fail
  refine (rmade_walk k macB _ [] _ (IntRow.nil _) (fun j x h => by simp at h) (by simp)).mono ?_
  rintro e w9 ⟨he, hb9⟩
  obtain ⟨p, rfl, tp⟩ := he.yes (by rw [HKL.out]; omega) (by decide)
  clear he
  go_wp2_with fail
  refine (rmade_walk k askB _ [] _ (IntRow.nil _) (fun j x h => by simp at h) (by simp)).mono ?_
  rintro e w10 ⟨he, hb10⟩
  obtain ⟨y, rfl, ty⟩ := he.yes (by rw [HKL.out]; omega) (by decide)
  clear he
  go_wp2_with fail
  refine (rdata_walk k _).mono ?_
  rintro e w11 ⟨⟨_, z, rfl, tz⟩ | ⟨hno, _⟩, hb11⟩
  rotate_left
  · exact absurd (by rw [HKL.out]; omega) hno
  go_wp2_with fail
  refine (is18_no _).mono ?_
  rintro e w' ⟨rfl, rfl⟩
  go_wp2_with fail
  refine (is18_yes b v _ (tb.same tv rfl)).mono ?_
  rintro e w' ⟨rfl, rfl⟩
  go_wp2_with fail
  refine (is18_yes c p _ (tc.same tp rfl)).mono ?_
  rintro e w' ⟨rfl, rfl⟩
  go_wp2_with fail
  refine (is18_yes d y _ (td.same ty rfl)).mono ?_
  rintro e w' ⟨rfl, rfl⟩
  go_wp2_with fail
  refine (is18_yes x z _ (tx.same tz rfl)).mono ?_
  rintro e w' ⟨rfl, rfl⟩
  go_wp2_with fail
  refine (alive18 _).mono ?_
  rintro e w12 ⟨rfl, hb12⟩
  go_wp2_with fail
  go_ret
  exact ⟨rfl, (bt hb1 (bt hb2 (bt hb3 (bt hb4 (bt hb5 (bt (e6.mono l6) (bt hb7 (bt hb8 (bt hb9 (bt hb10 (bt hb11 hb12)))))))))))⟩

set_option maxHeartbeats 2000000 in
theorem makes_no_lo (k : ByteArray) (first : Int) (w : World) (c1 : (k.size : Int) ≤ 1000) (c2 : ¬ (k.size : Int) = 32) (c3 : first < 0) :
    Calls Try.prog 20 #[.string k, .int .i64 first] w fun e w' => e = .returned (.bool true) ∧ Below w.heap.size w w' := by
  have hkl : k.data.toList.length = k.size := rfl
  have HKL := Lib.hid hkl; clear hkl
  go_enter Try.func20, Try.ntmps20
  go_wp2_with fail
  refine (firstKey_walk k first _).mono ?_
  rintro e w1 ⟨he, hb1⟩
  obtain he := he.no (by omega)
  subst he
  go_wp2_with fail
  refine (nextKey_walk k _).mono ?_
  rintro e w2 ⟨he, hb2⟩
  obtain he := he.no (by omega)
  subst he
  go_wp2_with fail
  refine (macKey_walk k _).mono ?_
  rintro e w3 ⟨he, hb3⟩
  obtain he := he.no (by omega)
  subst he
  go_wp2_with fail
  refine (askKey_walk k _).mono ?_
  rintro e w4 ⟨he, hb4⟩
  obtain he := he.no (by omega)
  subst he
  go_wp2_with fail
  refine (dataKey_walk k _).mono ?_
  rintro e w5 ⟨he, hb5⟩
  obtain he := he.no (by omega)
  subst he
  go_wp2_with ((with_reducible refine wpList_slice_new 54 3 1 ?parts [.int .i64 first] (.int .i64 0) 1 8 (some 58) Try.underlying54 infoInt (by omega) (by omega) ?hgd ?ho ?hd ?hf ?_); (case hgd => rfl); (case ho => rfl); (case hd => rfl); (case hf => kernel_rfl); (intro g w6 l6 B6 e6 z6))
  refine (rmade_walk k sealB _ [first] _ (IntRow.blk (xs := [first]) B6 rfl 1) ?_ (by simp)).mono ?_
  · intro j x hx
    cases j with
    | zero => simp at hx; omega
    | succ j => simp at hx
  rintro e w7 ⟨he, hb7⟩
  obtain he := he.no (fun h => by have := h.1; rw [HKL.out] at this; omega)
  subst he
  clear B6
  go_wp2_with fail
  refine (rmade_walk k nextB _ [] _ (IntRow.nil _) (fun j x h => by simp at h) (by simp)).mono ?_
  rintro e w8 ⟨he, hb8⟩
  obtain he := he.no (fun h => by have := h.1; rw [HKL.out] at this; omega)
  subst he
  go_wp2_with fail
  refine (rmade_walk k macB _ [] _ (IntRow.nil _) (fun j x h => by simp at h) (by simp)).mono ?_
  rintro e w9 ⟨he, hb9⟩
  obtain he := he.no (fun h => by have := h.1; rw [HKL.out] at this; omega)
  subst he
  go_wp2_with fail
  refine (rmade_walk k askB _ [] _ (IntRow.nil _) (fun j x h => by simp at h) (by simp)).mono ?_
  rintro e w10 ⟨he, hb10⟩
  obtain he := he.no (fun h => by have := h.1; rw [HKL.out] at this; omega)
  subst he
  go_wp2_with fail
  refine (rdata_walk k _).mono ?_
  rintro e w11 ⟨⟨hno, _⟩ | ⟨_, rfl⟩, hb11⟩
  · rw [HKL.out] at hno; omega
  go_wp2_with fail
  refine (is18_no _).mono ?_
  rintro e w' ⟨rfl, rfl⟩
  go_wp2_with fail
  refine (is18_no _).mono ?_
  rintro e w' ⟨rfl, rfl⟩
  go_wp2_with fail
  refine (is18_no _).mono ?_
  rintro e w' ⟨rfl, rfl⟩
  go_wp2_with fail
  refine (is18_no _).mono ?_
  rintro e w' ⟨rfl, rfl⟩
  go_wp2_with fail
  refine (is18_no _).mono ?_
  rintro e w' ⟨rfl, rfl⟩
  go_wp2_with fail
  refine (alive18 _).mono ?_
  rintro e w12 ⟨rfl, hb12⟩
  go_wp2_with fail
  go_ret
  exact ⟨rfl, (bt hb1 (bt hb2 (bt hb3 (bt hb4 (bt hb5 (bt (e6.mono l6) (bt hb7 (bt hb8 (bt hb9 (bt hb10 (bt hb11 hb12)))))))))))⟩

set_option maxHeartbeats 2000000 in
theorem makes_no_in (k : ByteArray) (first : Int) (w : World) (c1 : (k.size : Int) ≤ 1000) (c2 : ¬ (k.size : Int) = 32) (c3 : 0 ≤ first) (c4 : first ≤ 4294967295) :
    Calls Try.prog 20 #[.string k, .int .i64 first] w fun e w' => e = .returned (.bool true) ∧ Below w.heap.size w w' := by
  have hkl : k.data.toList.length = k.size := rfl
  have HKL := Lib.hid hkl; clear hkl
  go_enter Try.func20, Try.ntmps20
  go_wp2_with fail
  refine (firstKey_walk k first _).mono ?_
  rintro e w1 ⟨he, hb1⟩
  obtain he := he.no (by omega)
  subst he
  go_wp2_with fail
  refine (nextKey_walk k _).mono ?_
  rintro e w2 ⟨he, hb2⟩
  obtain he := he.no (by omega)
  subst he
  go_wp2_with fail
  refine (macKey_walk k _).mono ?_
  rintro e w3 ⟨he, hb3⟩
  obtain he := he.no (by omega)
  subst he
  go_wp2_with fail
  refine (askKey_walk k _).mono ?_
  rintro e w4 ⟨he, hb4⟩
  obtain he := he.no (by omega)
  subst he
  go_wp2_with fail
  refine (dataKey_walk k _).mono ?_
  rintro e w5 ⟨he, hb5⟩
  obtain he := he.no (by omega)
  subst he
  go_wp2_with ((with_reducible refine wpList_slice_new 54 3 1 ?parts [.int .i64 first] (.int .i64 0) 1 8 (some 58) Try.underlying54 infoInt (by omega) (by omega) ?hgd ?ho ?hd ?hf ?_); (case hgd => rfl); (case ho => rfl); (case hd => rfl); (case hf => kernel_rfl); (intro g w6 l6 B6 e6 z6))
  refine (rmade_walk k sealB _ [first] _ (IntRow.blk (xs := [first]) B6 rfl 1) ?_ (by simp)).mono ?_
  · intro j x hx
    cases j with
    | zero => simp at hx; omega
    | succ j => simp at hx
  rintro e w7 ⟨he, hb7⟩
  obtain he := he.no (fun h => by have := h.1; rw [HKL.out] at this; omega)
  subst he
  clear B6
  go_wp2_with fail
  refine (rmade_walk k nextB _ [] _ (IntRow.nil _) (fun j x h => by simp at h) (by simp)).mono ?_
  rintro e w8 ⟨he, hb8⟩
  obtain he := he.no (fun h => by have := h.1; rw [HKL.out] at this; omega)
  subst he
  go_wp2_with fail
  refine (rmade_walk k macB _ [] _ (IntRow.nil _) (fun j x h => by simp at h) (by simp)).mono ?_
  rintro e w9 ⟨he, hb9⟩
  obtain he := he.no (fun h => by have := h.1; rw [HKL.out] at this; omega)
  subst he
  go_wp2_with fail
  refine (rmade_walk k askB _ [] _ (IntRow.nil _) (fun j x h => by simp at h) (by simp)).mono ?_
  rintro e w10 ⟨he, hb10⟩
  obtain he := he.no (fun h => by have := h.1; rw [HKL.out] at this; omega)
  subst he
  go_wp2_with fail
  refine (rdata_walk k _).mono ?_
  rintro e w11 ⟨⟨hno, _⟩ | ⟨_, rfl⟩, hb11⟩
  · rw [HKL.out] at hno; omega
  go_wp2_with fail
  refine (is18_no _).mono ?_
  rintro e w' ⟨rfl, rfl⟩
  go_wp2_with fail
  refine (is18_no _).mono ?_
  rintro e w' ⟨rfl, rfl⟩
  go_wp2_with fail
  refine (is18_no _).mono ?_
  rintro e w' ⟨rfl, rfl⟩
  go_wp2_with fail
  refine (is18_no _).mono ?_
  rintro e w' ⟨rfl, rfl⟩
  go_wp2_with fail
  refine (is18_no _).mono ?_
  rintro e w' ⟨rfl, rfl⟩
  go_wp2_with fail
  refine (alive18 _).mono ?_
  rintro e w12 ⟨rfl, hb12⟩
  go_wp2_with fail
  go_ret
  exact ⟨rfl, (bt hb1 (bt hb2 (bt hb3 (bt hb4 (bt hb5 (bt (e6.mono l6) (bt hb7 (bt hb8 (bt hb9 (bt hb10 (bt hb11 hb12)))))))))))⟩

set_option maxHeartbeats 2000000 in
theorem makes_no_hi (k : ByteArray) (first : Int) (w : World) (c1 : (k.size : Int) ≤ 1000) (c2 : ¬ (k.size : Int) = 32) (c3 : 0 ≤ first) (c4 : 4294967295 < first) (c5 : first < 9223372036854775808) :
    Calls Try.prog 20 #[.string k, .int .i64 first] w fun e w' => e = .returned (.bool true) ∧ Below w.heap.size w w' := by
  have hkl : k.data.toList.length = k.size := rfl
  have HKL := Lib.hid hkl; clear hkl
  go_enter Try.func20, Try.ntmps20
  go_wp2_with fail
  refine (firstKey_walk k first _).mono ?_
  rintro e w1 ⟨he, hb1⟩
  obtain he := he.no (by omega)
  subst he
  go_wp2_with fail
  refine (nextKey_walk k _).mono ?_
  rintro e w2 ⟨he, hb2⟩
  obtain he := he.no (by omega)
  subst he
  go_wp2_with fail
  refine (macKey_walk k _).mono ?_
  rintro e w3 ⟨he, hb3⟩
  obtain he := he.no (by omega)
  subst he
  go_wp2_with fail
  refine (askKey_walk k _).mono ?_
  rintro e w4 ⟨he, hb4⟩
  obtain he := he.no (by omega)
  subst he
  go_wp2_with fail
  refine (dataKey_walk k _).mono ?_
  rintro e w5 ⟨he, hb5⟩
  obtain he := he.no (by omega)
  subst he
  go_wp2_with ((with_reducible refine wpList_slice_new 54 3 1 ?parts [.int .i64 first] (.int .i64 0) 1 8 (some 58) Try.underlying54 infoInt (by omega) (by omega) ?hgd ?ho ?hd ?hf ?_); (case hgd => rfl); (case ho => rfl); (case hd => rfl); (case hf => kernel_rfl); (intro g w6 l6 B6 e6 z6))
  refine (rmade_walk k sealB _ [first] _ (IntRow.blk (xs := [first]) B6 rfl 1) ?_ (by simp)).mono ?_
  · intro j x hx
    cases j with
    | zero => simp at hx; omega
    | succ j => simp at hx
  rintro e w7 ⟨he, hb7⟩
  obtain he := he.no (fun h => by have := h.1; rw [HKL.out] at this; omega)
  subst he
  clear B6
  go_wp2_with fail
  refine (rmade_walk k nextB _ [] _ (IntRow.nil _) (fun j x h => by simp at h) (by simp)).mono ?_
  rintro e w8 ⟨he, hb8⟩
  obtain he := he.no (fun h => by have := h.1; rw [HKL.out] at this; omega)
  subst he
  go_wp2_with fail
  refine (rmade_walk k macB _ [] _ (IntRow.nil _) (fun j x h => by simp at h) (by simp)).mono ?_
  rintro e w9 ⟨he, hb9⟩
  obtain he := he.no (fun h => by have := h.1; rw [HKL.out] at this; omega)
  subst he
  go_wp2_with fail
  refine (rmade_walk k askB _ [] _ (IntRow.nil _) (fun j x h => by simp at h) (by simp)).mono ?_
  rintro e w10 ⟨he, hb10⟩
  obtain he := he.no (fun h => by have := h.1; rw [HKL.out] at this; omega)
  subst he
  go_wp2_with fail
  refine (rdata_walk k _).mono ?_
  rintro e w11 ⟨⟨hno, _⟩ | ⟨_, rfl⟩, hb11⟩
  · rw [HKL.out] at hno; omega
  go_wp2_with fail
  refine (is18_no _).mono ?_
  rintro e w' ⟨rfl, rfl⟩
  go_wp2_with fail
  refine (is18_no _).mono ?_
  rintro e w' ⟨rfl, rfl⟩
  go_wp2_with fail
  refine (is18_no _).mono ?_
  rintro e w' ⟨rfl, rfl⟩
  go_wp2_with fail
  refine (is18_no _).mono ?_
  rintro e w' ⟨rfl, rfl⟩
  go_wp2_with fail
  refine (is18_no _).mono ?_
  rintro e w' ⟨rfl, rfl⟩
  go_wp2_with fail
  refine (alive18 _).mono ?_
  rintro e w12 ⟨rfl, hb12⟩
  go_wp2_with fail
  go_ret
  exact ⟨rfl, (bt hb1 (bt hb2 (bt hb3 (bt hb4 (bt hb5 (bt (e6.mono l6) (bt hb7 (bt hb8 (bt hb9 (bt hb10 (bt hb11 hb12)))))))))))⟩

theorem evolveMakes_walk (k : ByteArray) (first : Int) (w : World) (hf : Fits first) :
    Calls Try.prog 20 #[.string k, .int .i64 first] w fun e w' => e = .returned (.bool true) ∧ Below w.heap.size w w' := by
  by_cases c1 : 1000 < k.size
  · have d1 : (1000 : Int) < k.size := by omega
    go_enter Try.func20, Try.ntmps20
    go_wp2_with fail
    refine (alive18 _).mono ?_
    rintro e w1 ⟨rfl, hb1⟩
    go_wp2_with fail
    go_ret
    exact ⟨rfl, hb1⟩
  have h2 := hf.2
  by_cases c2 : k.size = 32
  · by_cases c3 : first < 0
    · exact makes_yes_lo k first w (by omega) (by omega) c3
    · by_cases c4 : first ≤ 4294967295
      · exact makes_yes_in k first w (by omega) (by omega) (by omega) c4
      · exact makes_yes_hi k first w (by omega) (by omega) (by omega) (by omega) (by omega)
  · by_cases c3 : first < 0
    · exact makes_no_lo k first w (by omega) (by omega) c3
    · by_cases c4 : first ≤ 4294967295
      · exact makes_no_in k first w (by omega) (by omega) (by omega) c4
      · exact makes_no_hi k first w (by omega) (by omega) (by omega) (by omega) (by omega)
end Go.Proofs.Ytacoibiafpdoaaa
