/- Walk of ChainTags: for every key, tag ahead, number and record the law returns true: what is said, and its tag, are as the documents say. No condition. -/
import Derived.Test.YtacoibiafpdoaaaChain3
import Derived.Test.YtacoibiafpdoaaaOpen2
namespace Go.Proofs.Ytacoibiafpdoaaa
open Go Go.RowKit
set_option linter.unusedVariables false

theorem few19_walk (r : Rec) (w : World) :
    Calls Try.prog 83 #[r.v] w fun e w' => e = .returned (.bool (decide (r.root.size ≤ 5000) && decide (r.name.size ≤ 5000))) ∧ Below w.heap.size w w' := by
  obtain ⟨kind, epoch, time, count, target, till, root, name⟩ := r
  unfold Rec.v
  go_enter Try.func83, Try.ntmps83
  go_wp2_with fail
  all_goals go_ret
  all_goals refine ⟨ret_b ?_, (Below.refl _ _).alloc (Nat.le_refl _) _⟩
  all_goals rw [Bool.eq_iff_iff]
  all_goals simp
  all_goals omega

/-- What an end in true or false is beside one in an error. -/
theorem ends_two {ok : Prop} {l : List UInt8} {e f : Ending} (h : Ends ok l 2 e) (k : EndsB ok l f) :
    (∃ r q, e = .returned (.tuple #[.string r, .int .i64 0]) ∧ f = .returned (.tuple #[.string q, .bool true]) ∧ (r.toList == q.toList) = true) ∨
    (e = .returned (.tuple #[.string ⟨#[]⟩, .int .i64 2]) ∧ f = .returned (.tuple #[.string ⟨#[]⟩, .bool false])) := by
  rcases h with ⟨c, r, he, tr⟩ | ⟨c, he⟩
  · obtain ⟨q, hf, tq⟩ := k.yes c
    exact .inl ⟨r, q, he, hf, tr.same tq rfl⟩
  · exact .inr ⟨he, k.no c⟩

set_option maxHeartbeats 1000000 in
theorem chainTags_walk (key was : ByteArray) (seq : Int) (r : Rec) (w : World) (hs : Fits seq) (hr : RecFits r) :
    Calls Try.prog 21 #[.string key, .string was, .int .i64 seq, r.v] w fun e w' => e = .returned (.bool true) ∧ Below w.heap.size w w' := by
  by_cases c1 : 1000 < key.size
  · have d1 : (1000 : Int) < key.size := by omega
    go_enter Try.func21, Try.ntmps21
    go_wp2_with ((with_reducible refine wpList_box_new 32 (.tmp 3) r.cells (some 7) ?hgd ?ho ?hd ?hx ?_); (case hgd => rfl); (case ho => rfl); (case hd => rfl); (case hx => rfl); (intro b w0 l0 B0 e0 z0))
    refine (alive20 _).mono ?_
    rintro e w1 ⟨rfl, hb1⟩
    go_wp2_with fail
    go_ret
    exact ⟨rfl, (e0.mono l0).trans (hb1.mono (by omega))⟩
  have d1 : (key.size : Int) ≤ 1000 := by omega
  by_cases c2 : 1000 < was.size
  · have d2 : (1000 : Int) < was.size := by omega
    go_enter Try.func21, Try.ntmps21
    go_wp2_with ((with_reducible refine wpList_box_new 32 (.tmp 3) r.cells (some 7) ?hgd ?ho ?hd ?hx ?_); (case hgd => rfl); (case ho => rfl); (case hd => rfl); (case hx => rfl); (intro b w0 l0 B0 e0 z0))
    refine (alive20 _).mono ?_
    rintro e w1 ⟨rfl, hb1⟩
    go_wp2_with fail
    go_ret
    exact ⟨rfl, (e0.mono l0).trans (hb1.mono (by omega))⟩
  have d2 : (was.size : Int) ≤ 1000 := by omega
  obtain ⟨kind, epoch, time, count, target, till, root, name⟩ := r
  have hre := hr.epoch
  clear hr c1 c2
  have R0 := Lib.hid (RecAt.blk (r := ⟨kind, epoch, time, count, target, till, root, name⟩) (Blk.new w (Rec.cells ⟨kind, epoch, time, count, target, till, root, name⟩) 32))
  have hbel0 : Below w.heap.size w (w.alloc (.cells (Rec.cells ⟨kind, epoch, time, count, target, till, root, name⟩).toArray 32)) := (Below.refl _ _).alloc (Nat.le_refl _) _
  by_cases c3 : root.size ≤ 5000 ∧ name.size ≤ 5000
  rotate_left
  · have hfew : (decide (root.size ≤ 5000) && decide (name.size ≤ 5000)) = false := by
      rw [Bool.and_eq_false_iff, decide_eq_false_iff_not, decide_eq_false_iff_not]; omega
    have HF := Lib.hid hfew; clear hfew c3
    unfold Rec.v
    go_enter Try.func21, Try.ntmps21
    go_wp2_with fail
    refine (few19_walk ⟨kind, epoch, time, count, target, till, root, name⟩ _).mono ?_
    rintro e w1 ⟨rfl, hb1⟩
    rw [HF.out]
    go_wp2_with fail
    refine (alive20 _).mono ?_
    rintro e w2 ⟨rfl, hb2⟩
    go_wp2_with fail
    go_ret
    exact ⟨rfl, hbel0.trans ((bt hb1 hb2).mono hbel0.size)⟩
  have hfew : (decide (root.size ≤ 5000) && decide (name.size ≤ 5000)) = true := by
    rw [Bool.and_eq_true, decide_eq_true_eq, decide_eq_true_eq]; exact c3
  have HF := Lib.hid hfew; clear hfew
  obtain ⟨hrt, hnm⟩ := c3
  unfold Rec.v
  go_enter Try.func21, Try.ntmps21
  go_wp2_with fail
  refine (few19_walk ⟨kind, epoch, time, count, target, till, root, name⟩ _).mono ?_
  rintro e w1 ⟨rfl, hb1⟩
  rw [HF.out]
  have R1 := R0.out.below hb1 R0.out.lt
  have hbel1 := hbel0.trans (hb1.mono hbel0.size)
  clear hb1 hbel0 R0
  obtain ⟨x1, c0, c1, c2, c3, c4, c5, c6, c7⟩ := R1
  have R1 := Lib.hid (RecAt.mk x1 c0 c1 c2 c3 c4 c5 c6 c7 : RecAt w1 w.heap.size ⟨kind, epoch, time, count, target, till, root, name⟩)
  go_wp2_with fail
  clear x1 c0 c1 c2 c3 c4 c5 c6 c7
  refine (csaid_walk was seq ⟨kind, epoch, time, count, target, till, root, name⟩ _ (by show root.size ≤ _; omega) (by show name.size ≤ _; omega) hre hs).mono ?_
  rintro e w2 ⟨he1, hb2⟩
  have HE1 := Lib.hid he1
  rcases he1 with ⟨_, p1, rfl, _⟩ | ⟨_, rfl⟩
  all_goals
    have R2 := R1.out.below hb2 R1.out.lt
    have hbel2 := hbel1.trans (hb2.mono hbel1.size)
    clear hb2 hbel1 R1
    obtain ⟨x2, c0, c1, c2, c3, c4, c5, c6, c7⟩ := R2
    have R2 := Lib.hid (RecAt.mk x2 c0 c1 c2 c3 c4 c5 c6 c7 : RecAt w2 w.heap.size ⟨kind, epoch, time, count, target, till, root, name⟩)
    go_wp2_with fail
    clear x2 c0 c1 c2 c3 c4 c5 c6 c7
    refine (rcsaid_walk was seq ⟨kind, epoch, time, count, target, till, root, name⟩ _ (by show root.size ≤ _; omega) (by show name.size ≤ _; omega) hre hs (by omega)).mono ?_
    rintro e w3 ⟨he2, hb3⟩
    rcases ends_two HE1.out he2 with ⟨r1, q1, h1, h2, h3⟩ | ⟨h1, h2⟩
    all_goals first
      | (exfalso; simp at h1; done)
      | skip
    all_goals
      clear he2 HE1
      subst h2
      first
      | (obtain rfl : p1 = r1 := by simpa using h1)
      | skip
      clear h1
      have R3 := R2.out.below hb3 R2.out.lt
      have hbel3 := hbel2.trans (hb3.mono hbel2.size)
      clear hb3 hbel2 R2
      obtain ⟨x3, c0, c1, c2, c3, c4, c5, c6, c7⟩ := R3
      have R3 := Lib.hid (RecAt.mk x3 c0 c1 c2 c3 c4 c5 c6 c7 : RecAt w3 w.heap.size ⟨kind, epoch, time, count, target, till, root, name⟩)
      go_wp2_with fail
      clear x3 c0 c1 c2 c3 c4 c5 c6 c7
      refine (ctag_walk key was seq ⟨kind, epoch, time, count, target, till, root, name⟩ _ (by show root.size ≤ _; omega) (by show name.size ≤ _; omega) hre hs).mono ?_
      rintro e w4 ⟨he1, hb4⟩
      have HE1 := Lib.hid he1
      rcases he1 with ⟨_, p2, rfl, _⟩ | ⟨_, rfl⟩
      all_goals
        have R4 := R3.out.below hb4 R3.out.lt
        have hbel4 := hbel3.trans (hb4.mono hbel3.size)
        clear hb4 hbel3 R3
        obtain ⟨x4, c0, c1, c2, c3, c4, c5, c6, c7⟩ := R4
        have R4 := Lib.hid (RecAt.mk x4 c0 c1 c2 c3 c4 c5 c6 c7 : RecAt w4 w.heap.size ⟨kind, epoch, time, count, target, till, root, name⟩)
        go_wp2_with fail
        clear x4 c0 c1 c2 c3 c4 c5 c6 c7
        refine (rctag_walk key was seq ⟨kind, epoch, time, count, target, till, root, name⟩ _ (by show root.size ≤ _; omega) (by show name.size ≤ _; omega) hre hs (by omega)).mono ?_
        rintro e w5 ⟨he2, hb5⟩
        rcases ends_two HE1.out he2 with ⟨r2, q2, h1, h2, h4⟩ | ⟨h1, h2⟩
        all_goals first
          | (exfalso; simp at h1; done)
          | skip
        all_goals
          clear he2 HE1
          subst h2
          first
          | (obtain rfl : p2 = r2 := by simpa using h1)
          | skip
          clear h1
          have hbel5 := hbel4.trans (hb5.mono hbel4.size)
          clear hb5 R4
          go_wp2_with fail
          refine (alive20 _).mono ?_
          rintro e w6 ⟨rfl, hb6⟩
          go_wp2_with fail
          go_ret
          exact ⟨rfl, hbel5.trans (hb6.mono hbel5.size)⟩
end Go.Proofs.Ytacoibiafpdoaaa
