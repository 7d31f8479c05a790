/- Walk of SampleNumbers: for every text and numbers the law returns true. No condition. -/
import Derived.Test.YtacoibiafpdoaaaSmp4
import Derived.Deep.DeepCutAuto
namespace Go.Proofs.Ytacoibiafpdoaaa
open Go Go.RowKit
set_option linter.unusedVariables false

set_option maxRecDepth 100000 in
set_option maxHeartbeats 2000000 in
theorem sampleNumbers_walk (s : ByteArray) (i below f o l : Int) (w : World) :
    Calls Try.prog 17 #[.string s, .int .i64 i, .int .i64 below, .int .i64 f, .int .i64 o, .int .i64 l] w fun e w' => e = .returned (.bool true) ∧ Below w.heap.size w w' := by
  by_cases c1 : (1000 : Int) < s.size
  · go_enter Try.func17, Try.ntmps17
    go_wp2_with fail
    refine (alive38 _).mono ?_
    rintro e w1 ⟨rfl, hb1⟩
    go_wp2_with fail
    go_ret
    exact ⟨rfl, hb1⟩
  have c1' : (s.size : Int) ≤ 1000 := by omega
  clear c1
  obtain ⟨T, hT⟩ : ∃ T, totalS f o l = T := ⟨_, rfl⟩
  have tb := totalS_bd f o l
  rw [hT] at tb
  obtain ⟨t0, t1⟩ := tb
  have HT := Lib.hid hT; clear hT
  by_cases hok : NumberOk s i below
  · obtain ⟨h1, h2, h3, h4, h5⟩ := hok
    obtain ⟨k, hk⟩ : ∃ k : Nat, i = (k : Int) := ⟨i.toNat, by omega⟩
    obtain ⟨b, hb⟩ : ∃ b : Nat, below = (b : Int) := ⟨below.toNat, by omega⟩
    have hn := number38_yes s k b
    have hrn := rnumber38_walk s k b
    rw [← hk, ← hb] at hn hrn
    have hk4 : k ≤ 4294967295 := by omega
    have hb1 : 1 ≤ b := by omega
    have hb4 : b ≤ 4194304 := by omega
    obtain ⟨r, Hr⟩ : ∃ r, Hid (numS s.data.toList k b = r) := ⟨_, rfl⟩
    clear hk hb
    go_enter Try.func17, Try.ntmps17
    go_wp2_with fail
    refine (hn _ h1 hk4 hb1 hb4).mono ?_
    rintro e w1 ⟨rfl, hb1⟩
    rw [Hr.out]
    go_wp2_with fail
    refine (hrn _ h1 hk4 (by omega) hb4).mono ?_
    rintro e w2 ⟨rfl, hb2⟩
    rw [Hr.out]
    have HB := Lib.hid (bt hb1 hb2)
    clear hb1 hb2 hn hrn h1 h2 h3 h4 h5 hk4 hb4
    go_wp2_with fail
    refine (rtotal38_walk f o l _).mono ?_
    rintro e wB ⟨rfl, rfl⟩
    rw [HT.out]
    go_wp2_with fail
    refine (place38_walk f o l i _).mono ?_
    rintro e w4 ⟨he, hb4⟩
    have Hb4 := Lib.hid (HB.out.trans (hb4.mono HB.out.size))
    clear hb4 HB
    unfold PlaceEnd at he
    by_cases p1 : i < 0
    · have hp : placeS f o l i = (⟨0, 0⟩, 2) := by unfold placeS; rw [if_neg (by omega)]
      rw [hp] at he
      subst he
      clear hp
      go_wp2_with (first
        | ((with_reducible refine wpList_alloc_new 85 (AskD.cells ⟨0, 0⟩) zeroAsk (some 16) ?hgd ?ho ?hd ?_); (case hgd => rfl); (case ho => rfl); (case hd => rfl); (intro b9 w9 l9 B9 e9 z9))
        | ((with_reducible refine wpList_store_new 85 (.tmp 16) (.tmp 74) b9 (AskD.cells ⟨0, 0⟩) (AskD.cells ⟨0, 0⟩) 85 B9 rfl rsizeAsk (AskD.cells_one _) ?hgd ?ho ?hx ?hy ?_); (case hgd => rfl); (case ho => rfl); (case hx => rfl); (case hy => rfl); (intro w10 B10 o10))
        | fail)
      refine (total38_walk f o l _).mono ?_
      rintro e wC ⟨rfl, rfl⟩
      rw [HT.out]
      have a0 := B10.cell (i := 0) rfl
      have a1 := B10.cell (i := 1) rfl
      have hf10 := o10.below (e9.mono l9) l9
      have Hb10 := Lib.hid (Hb4.out.trans (hf10.mono Hb4.out.size))
      go_wp2_with fail
      refine (alive38 _).mono ?_
      rintro e w11 ⟨rfl, hb11⟩
      go_wp2_with fail
      go_ret
      exact ⟨rfl, Hb10.out.trans (hb11.mono Hb10.out.size)⟩
    · have p1' : 0 ≤ i := by omega
      by_cases p2 : T ≤ i
      · have hp : placeS f o l i = (⟨0, 0⟩, 2) := by unfold placeS; rw [HT.out, if_neg (by omega)]
        rw [hp] at he
        subst he
        clear hp p1
        go_wp2_with (first
          | ((with_reducible refine wpList_alloc_new 85 (AskD.cells ⟨0, 0⟩) zeroAsk (some 16) ?hgd ?ho ?hd ?_); (case hgd => rfl); (case ho => rfl); (case hd => rfl); (intro b9 w9 l9 B9 e9 z9))
          | ((with_reducible refine wpList_store_new 85 (.tmp 16) (.tmp 74) b9 (AskD.cells ⟨0, 0⟩) (AskD.cells ⟨0, 0⟩) 85 B9 rfl rsizeAsk (AskD.cells_one _) ?hgd ?ho ?hx ?hy ?_); (case hgd => rfl); (case ho => rfl); (case hx => rfl); (case hy => rfl); (intro w10 B10 o10))
          | fail)
        refine (total38_walk f o l _).mono ?_
        rintro e wC ⟨rfl, rfl⟩
        rw [HT.out]
        have a0 := B10.cell (i := 0) rfl
        have a1 := B10.cell (i := 1) rfl
        have hf10 := o10.below (e9.mono l9) l9
        have Hb10 := Lib.hid (Hb4.out.trans (hf10.mono Hb4.out.size))
        go_wp2_with fail
        refine (alive38 _).mono ?_
        rintro e w11 ⟨rfl, hb11⟩
        go_wp2_with fail
        go_ret
        exact ⟨rfl, Hb10.out.trans (hb11.mono Hb10.out.size)⟩
      · have hp : placeS f o l i = (⟨f + i / l, i % l⟩, 0) := by unfold placeS; rw [HT.out, if_pos (by omega)]
        have hr : rightB f o l = true := by
          cases hq : rightB f o l with
          | true => rfl
          | false => have := HT.out; unfold totalS at this; rw [hq] at this; simp at this; omega
        obtain ⟨h1, h2, h3, h4, h5, h6⟩ := rightB_iff.1 hr
        rw [hp] at he
        subst he
        have p2' : i < T := by omega
        have hl0 : l ≠ 0 := by omega
        have q0 : 0 ≤ i / l := Int.ediv_nonneg (by omega) (by omega)
        have q1 : i / l ≤ i := Int.ediv_le_self _ (by omega)
        have qw : IntKind.i64.wrap (f + i / l) = f + i / l := IntWalk.i64_in _ (by omega)
        have qd : i.tdiv l = i / l := Int.tdiv_eq_ediv_of_nonneg (by omega)
        have qm : i.tmod l = i % l := Int.tmod_eq_emod_of_nonneg (by omega)
        have qr : IntKind.i64.wrap (i / l) = i / l := IntWalk.i64_in _ (by omega)
        clear hp hr h6 p1 p2
        go_wp2_with (first
          | ((with_reducible refine wpList_alloc_new 85 (AskD.cells ⟨0, 0⟩) zeroAsk (some 16) ?hgd ?ho ?hd ?_); (case hgd => rfl); (case ho => rfl); (case hd => rfl); (intro b9 w9 l9 B9 e9 z9))
          | ((with_reducible refine wpList_store_new 85 (.tmp 16) (.tmp 74) b9 (AskD.cells ⟨0, 0⟩) (AskD.cells ⟨f + i / l, i % l⟩) 85 B9 rfl rsizeAsk (AskD.cells_one _) ?hgd ?ho ?hx ?hy ?_); (case hgd => rfl); (case ho => rfl); (case hx => rfl); (case hy => rfl); (intro w10 B10 o10))
          | fail)
        refine (total38_walk f o l _).mono ?_
        rintro e wC ⟨rfl, rfl⟩
        rw [HT.out]
        have a0 := B10.cell (i := 0) rfl
        have a1 := B10.cell (i := 1) rfl
        have hf10 := o10.below (e9.mono l9) l9
        have Hb10 := Lib.hid (Hb4.out.trans (hf10.mono Hb4.out.size))
        go_wp2_with fail
        refine wp_region_still_tail_drew 16 (by kernel_rfl) (by kernel_rfl) ?_
        simp only [List.take_succ_cons, List.take_zero, List.drop_succ_cons, List.drop_zero]
        iterate 16 still_step
        refine wpStill_nil ?_
        go_wp2_with fail
        refine (alive38 _).mono ?_
        rintro e w11 ⟨rfl, hb11⟩
        go_wp2_with fail
        go_ret
        exact ⟨rfl, Hb10.out.drew.trans (hb11.mono Hb10.out.size)⟩
  · have HOK := Lib.hid hok; clear hok
    by_cases hs32 : (s.size : Int) = 32
    all_goals
      go_enter Try.func17, Try.ntmps17
      go_upto_region 4 with (go_at_call 70; refine (number38_no s i below _ HOK.out).mono ?_; rintro e w1 ⟨rfl, rfl⟩)
      go_cut [47] from 29 to 47 (fun v wc => v = .bool true ∧ w = wc)
      case first =>
        go_wp2_with fail
        all_goals go_meet
        all_goals first
          | exact ⟨rfl, rfl⟩
          | (refine ⟨congrArg Value.bool ?_, rfl⟩; have := HOK.out; unfold NumberOk at this; simp; omega)
      case rest =>
        obtain ⟨rfl, rfl⟩ := hcut
        have HB := Lib.hid (Below.refl w.heap.size w)
        go_wp2_with fail
        refine (rtotal38_walk f o l _).mono ?_
        rintro e wB ⟨rfl, rfl⟩
        rw [HT.out]
        go_wp2_with fail
        refine (place38_walk f o l i _).mono ?_
        rintro e w4 ⟨he, hb4⟩
        have Hb4 := Lib.hid (HB.out.trans (hb4.mono HB.out.size))
        clear hb4 HB
        unfold PlaceEnd at he
        by_cases p1 : i < 0
        · have hp : placeS f o l i = (⟨0, 0⟩, 2) := by unfold placeS; rw [if_neg (by omega)]
          rw [hp] at he
          subst he
          clear hp
          go_wp2_with (first
            | ((with_reducible refine wpList_alloc_new 85 (AskD.cells ⟨0, 0⟩) zeroAsk (some 16) ?hgd ?ho ?hd ?_); (case hgd => rfl); (case ho => rfl); (case hd => rfl); (intro b9 w9 l9 B9 e9 z9))
            | ((with_reducible refine wpList_store_new 85 (.tmp 16) (.tmp 74) b9 (AskD.cells ⟨0, 0⟩) (AskD.cells ⟨0, 0⟩) 85 B9 rfl rsizeAsk (AskD.cells_one _) ?hgd ?ho ?hx ?hy ?_); (case hgd => rfl); (case ho => rfl); (case hx => rfl); (case hy => rfl); (intro w10 B10 o10))
            | fail)
          refine (total38_walk f o l _).mono ?_
          rintro e wC ⟨rfl, rfl⟩
          rw [HT.out]
          have a0 := B10.cell (i := 0) rfl
          have a1 := B10.cell (i := 1) rfl
          have hf10 := o10.below (e9.mono l9) l9
          have Hb10 := Lib.hid (Hb4.out.trans (hf10.mono Hb4.out.size))
          go_wp2_with fail
          refine (alive38 _).mono ?_
          rintro e w11 ⟨rfl, hb11⟩
          go_wp2_with fail
          go_ret
          exact ⟨rfl, Hb10.out.trans (hb11.mono Hb10.out.size)⟩
        · have p1' : 0 ≤ i := by omega
          by_cases p2 : T ≤ i
          · have hp : placeS f o l i = (⟨0, 0⟩, 2) := by unfold placeS; rw [HT.out, if_neg (by omega)]
            rw [hp] at he
            subst he
            clear hp p1
            go_wp2_with (first
              | ((with_reducible refine wpList_alloc_new 85 (AskD.cells ⟨0, 0⟩) zeroAsk (some 16) ?hgd ?ho ?hd ?_); (case hgd => rfl); (case ho => rfl); (case hd => rfl); (intro b9 w9 l9 B9 e9 z9))
              | ((with_reducible refine wpList_store_new 85 (.tmp 16) (.tmp 74) b9 (AskD.cells ⟨0, 0⟩) (AskD.cells ⟨0, 0⟩) 85 B9 rfl rsizeAsk (AskD.cells_one _) ?hgd ?ho ?hx ?hy ?_); (case hgd => rfl); (case ho => rfl); (case hx => rfl); (case hy => rfl); (intro w10 B10 o10))
              | fail)
            refine (total38_walk f o l _).mono ?_
            rintro e wC ⟨rfl, rfl⟩
            rw [HT.out]
            have a0 := B10.cell (i := 0) rfl
            have a1 := B10.cell (i := 1) rfl
            have hf10 := o10.below (e9.mono l9) l9
            have Hb10 := Lib.hid (Hb4.out.trans (hf10.mono Hb4.out.size))
            go_wp2_with fail
            refine (alive38 _).mono ?_
            rintro e w11 ⟨rfl, hb11⟩
            go_wp2_with fail
            go_ret
            exact ⟨rfl, Hb10.out.trans (hb11.mono Hb10.out.size)⟩
          · have hp : placeS f o l i = (⟨f + i / l, i % l⟩, 0) := by unfold placeS; rw [HT.out, if_pos (by omega)]
            have hr : rightB f o l = true := by
              cases hq : rightB f o l with
              | true => rfl
              | false => have := HT.out; unfold totalS at this; rw [hq] at this; simp at this; omega
            obtain ⟨h1, h2, h3, h4, h5, h6⟩ := rightB_iff.1 hr
            rw [hp] at he
            subst he
            have p2' : i < T := by omega
            have hl0 : l ≠ 0 := by omega
            have q0 : 0 ≤ i / l := Int.ediv_nonneg (by omega) (by omega)
            have q1 : i / l ≤ i := Int.ediv_le_self _ (by omega)
            have qw : IntKind.i64.wrap (f + i / l) = f + i / l := IntWalk.i64_in _ (by omega)
            have qd : i.tdiv l = i / l := Int.tdiv_eq_ediv_of_nonneg (by omega)
            have qm : i.tmod l = i % l := Int.tmod_eq_emod_of_nonneg (by omega)
            have qr : IntKind.i64.wrap (i / l) = i / l := IntWalk.i64_in _ (by omega)
            clear hp hr h6 p1 p2
            go_wp2_with (first
              | ((with_reducible refine wpList_alloc_new 85 (AskD.cells ⟨0, 0⟩) zeroAsk (some 16) ?hgd ?ho ?hd ?_); (case hgd => rfl); (case ho => rfl); (case hd => rfl); (intro b9 w9 l9 B9 e9 z9))
              | ((with_reducible refine wpList_store_new 85 (.tmp 16) (.tmp 74) b9 (AskD.cells ⟨0, 0⟩) (AskD.cells ⟨f + i / l, i % l⟩) 85 B9 rfl rsizeAsk (AskD.cells_one _) ?hgd ?ho ?hx ?hy ?_); (case hgd => rfl); (case ho => rfl); (case hx => rfl); (case hy => rfl); (intro w10 B10 o10))
              | fail)
            refine (total38_walk f o l _).mono ?_
            rintro e wC ⟨rfl, rfl⟩
            rw [HT.out]
            have a0 := B10.cell (i := 0) rfl
            have a1 := B10.cell (i := 1) rfl
            have hf10 := o10.below (e9.mono l9) l9
            have Hb10 := Lib.hid (Hb4.out.trans (hf10.mono Hb4.out.size))
            go_wp2_with fail
            refine wp_region_still_tail_drew 16 (by kernel_rfl) (by kernel_rfl) ?_
            simp only [List.take_succ_cons, List.take_zero, List.drop_succ_cons, List.drop_zero]
            iterate 16 still_step
            refine wpStill_nil ?_
            go_wp2_with fail
            refine (alive38 _).mono ?_
            rintro e w11 ⟨rfl, hb11⟩
            go_wp2_with fail
            go_ret
            exact ⟨rfl, Hb10.out.drew.trans (hb11.mono Hb10.out.size)⟩
end Go.Proofs.Ytacoibiafpdoaaa
