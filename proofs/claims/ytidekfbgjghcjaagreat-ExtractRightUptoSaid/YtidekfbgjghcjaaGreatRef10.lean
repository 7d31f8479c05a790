/- Walk of the documents' At (chapter 18). -/
import Derived.Test.YtidekfbgjghcjaaGreatG5
namespace Go.Proofs.YtidekfbgjghcjaaGreat
set_option linter.unusedSimpArgs false
set_option linter.unusedVariables false
open Go Go.RowKit

theorem MadeEnd.yes {key label : List UInt8} {xs : List Int} {e : Ending} (h : MadeEnd key label xs e) (h1 : key.length = 32) (h2 : saidOk label xs = true) :
    ∃ r, e = .returned (.tuple #[.string r, .bool true]) ∧ Txt r (madeL key label (xs.map Int.toNat)) := by
  rcases h with ⟨_, h⟩ | ⟨h, _⟩
  · exact h
  · exact absurd ⟨h1, h2⟩ h
set_option maxRecDepth 100000 in
set_option maxHeartbeats 1000000 in
theorem rat_walk (root : ByteArray) (first epoch : Int) (w : World) :
    Calls Tryz.prog 65 #[.string root, .int .i64 first, .int .i64 epoch] w fun e w' => AtEnd root.data.toList first epoch e ∧ Below w.heap.size w w' := by
  by_cases c1 : root.size = 32
  rotate_left
  · have d1 : ¬ (root.size : Int) = 32 := by omega
    go_enter Tryz.func65, Tryz.ntmps65
    go_wp2_with fail
    go_ret2
    have hrl : root.data.toList.length = root.size := rfl
    exact ⟨.inr (.inl ⟨by omega, rfl⟩), Below.refl _ _⟩
  have d1 : (root.size : Int) = 32 := by omega
  by_cases c2 : first < 0
  · skip
    go_enter Tryz.func65, Tryz.ntmps65
    go_wp2_with fail
    go_ret2
    have hrl : root.data.toList.length = root.size := rfl
    exact ⟨.inr (.inl ⟨by omega, rfl⟩), Below.refl _ _⟩
  have d2 : 0 ≤ first := by omega
  by_cases c3 : epoch < first
  · skip
    go_enter Tryz.func65, Tryz.ntmps65
    go_wp2_with fail
    go_ret2
    have hrl : root.data.toList.length = root.size := rfl
    exact ⟨.inr (.inl ⟨by omega, rfl⟩), Below.refl _ _⟩
  have d3 : first ≤ epoch := by omega
  by_cases c4 : 4294967295 < epoch
  · skip
    go_enter Tryz.func65, Tryz.ntmps65
    go_wp2_with fail
    go_ret2
    have hrl : root.data.toList.length = root.size := rfl
    exact ⟨.inr (.inl ⟨by omega, rfl⟩), Below.refl _ _⟩
  have d4 : epoch ≤ 4294967295 := by omega
  by_cases c5 : 4096 < epoch - first
  · go_enter Tryz.func65, Tryz.ntmps65
    go_wp2_with fail
    go_ret2
    have hrl : root.data.toList.length = root.size := rfl
    exact ⟨.inr (.inr ⟨by omega, rfl⟩), Below.refl _ _⟩
  have d5 : epoch - first ≤ 4096 := by omega
  clear c2 c3 c4 c5
  obtain ⟨f, rfl⟩ : ∃ f : Nat, first = (f : Int) := ⟨first.toNat, by omega⟩
  obtain ⟨m, rfl⟩ : ∃ m : Nat, epoch = ((f + m : Nat) : Int) := ⟨(epoch - f).toNat, by omega⟩
  obtain ⟨z, Hz⟩ : ∃ z : Nat, Hid (z = f + m) := ⟨_, rfl⟩
  rw [← Hz.out] at d3 d4 d5 ⊢
  go_enter Tryz.func65, Tryz.ntmps65
  go_wp2_with ((with_reducible refine wpList_slice_new 78 3 1 ?parts [.int .i64 (f : Int)] (.int .i64 0) 1 8 (some 34) Tryz.underlying78 infoInt (by omega) (by omega) ?hgd ?ho ?hd ?hf ?_); (case hgd | ho | hd => rfl); (case hf => kernel_rfl); (intro g w2 l2 B2 e2 z2))
  refine (rmade_walk root sealB _ [(f : Int)] _ (IntRow.blk (xs := [(f : Int)]) B2 rfl 1) ?_ (by simp)).mono ?_
  · intro j x hx
    cases j with
    | zero => simp at hx; omega
    | succ j => simp at hx
  rintro e w3 ⟨he, hb3⟩
  obtain ⟨r, rfl, tr⟩ := he.yes c1 (by simp [saidOk, sealB])
  clear he
  have hbel := (e2.mono l2).trans (hb3.mono (by omega))
  clear e2 l2 B2 z2 hb3
  go_wp2_with fail
  go_loopw [8, 10] (fun key i wr => ∃ (k t : Nat) (s : ByteArray), k ≤ m ∧ i = .int .i64 t ∧ t = f + k ∧ key = .string s ∧ Txt s (atL root.data.toList f k) ∧ Below w.heap.size w wr) (fun key i _ => z - (intOf i).toNat)
  case atStart => exact ⟨0, f, r, by omega, rfl, rfl, rfl, tr, hbel⟩
  case round =>
    clear hbel tr
    obtain ⟨k, t, s, hk, rfl, ht, rfl, ts, hbel⟩ := hrel
    have HT := Lib.hid ht; clear ht
    have hs : s.size = 32 := by rw [ts.size, atL_length]
    by_cases hlt : k < m
    · have hlt' : (t : Int) < z := by have := Hz.out; have := HT.out; omega
      have ht2 : (t : Int) < 4294967295 := by omega
      go_wp2_with fail
      refine (rmade_walk s nextB _ [] _ (IntRow.nil _) (fun j x h => by simp at h) (by simp)).mono ?_
      rintro e w3 ⟨he, hb3⟩
      obtain ⟨q, rfl, tq⟩ := he.yes hs (by decide)
      clear he
      go_wp2_with fail
      go_roundw
      case rel =>
        have y := hbel.size
        refine ⟨k + 1, t + 1, q, by omega, by go_num, by have := HT.out; omega, rfl, ?_, hbel.trans (hb3.mono y)⟩
        exact tq.cast (by rw [ts]; rfl)
      case measure => simp [intOf]; omega
    · obtain rfl : k = m := by omega
      have hge : (z : Int) ≤ t := by have := Hz.out; have := HT.out; omega
      go_wp2_with fail
      go_ret2
      have hrl : root.data.toList.length = root.size := rfl
      have hz := Hz.out
      exact ⟨.inl ⟨by omega, s, rfl, ts.cast (by rw [show ((f : Int)).toNat = f by omega, show ((z : Int) - f).toNat = k by omega])⟩, hbel⟩
end Go.Proofs.YtidekfbgjghcjaaGreat

