/- Walk of ChainSound: for every root, first epoch, two rows of sealed records and epoch the law returns true. No condition. -/
import Derived.Test.YtmiikdkdccheeaaForgeS
import Derived.Test.YtmiikdkdccheeaaForge2
import Derived.Test.YtmiikdkdccheeaaQuiet
import Derived.Deep.RegionWith
namespace Go.Proofs.Ytmiikdkdccheeaa
set_option linter.unusedSimpArgs false
set_option linter.unusedVariables false
open Go Go.RowKit
set_option linter.unusedVariables false

theorem ret_bl {a b : Bool} (h : a = b) : Ending.returned (.bool a) = .returned (.bool b) := by rw [h]

set_option maxRecDepth 100000 in
set_option maxHeartbeats 8000000 in
theorem chainSound_walk (root : ByteArray) (first : Int) (u v : Value) (l m : List Sld) (below : Int) (w : World) (hu : SldRow w u l) (hv : SldRow w v m) (hl : l.length ≤ 1048576) (hm : m.length ≤ 1048576) (htl : SldTame l) (htm : SldTame m) (hf1 : fewS l = true) (hf2 : fewS m = true) :
    Calls Try.prog 4 #[.string root, .int .i64 first, u, v, .int .i64 below] w fun e w' => e = .returned (.bool true) ∧ Below w.heap.size w w' := by
  obtain ⟨p, c, rfl⟩ := hu.shape
  obtain ⟨q, d, rfl⟩ := hv.shape
  obtain ⟨n, hn⟩ : ∃ n, n = l.length := ⟨_, rfl⟩
  obtain ⟨n', hn'⟩ : ∃ n', n' = m.length := ⟨_, rfl⟩
  rw [← hn] at hu ⊢
  rw [← hn'] at hv ⊢
  have hn2 : n ≤ 1048576 := by omega
  have hn2' : n' ≤ 1048576 := by omega
  have HU := Lib.hid hu; clear hu
  have HV := Lib.hid hv; clear hv
  have HN := Lib.hid hn; clear hn
  have HN' := Lib.hid hn'; clear hn'
  have HL := Lib.hid hl; clear hl
  have HM := Lib.hid hm; clear hm
  have HTL := Lib.hid htl; clear htl
  have HTM := Lib.hid htm; clear htm
  have H1 := Lib.hid hf1; clear hf1
  have H2 := Lib.hid hf2; clear hf2
  obtain ⟨t1, ht1⟩ : ∃ t, checkS root first l = t := ⟨_, rfl⟩
  have HT1 := Lib.hid ht1; clear ht1
  obtain ⟨a, a2, er⟩ := t1
  obtain ⟨t2, ht2⟩ : ∃ t, checkS root first m = t := ⟨_, rfl⟩
  have HT2 := Lib.hid ht2; clear ht2
  obtain ⟨b, b2, er'⟩ := t2
  go_enter Try.func4, Try.ntmps4
  go_wp2_with fail
  refine (few20_walk _ l _ HU.out).mono ?_
  rintro e w1 ⟨rfl, hb1⟩
  rw [H1.out]
  go_wp2_with fail
  refine (few20_walk _ m _ (HV.out.below hb1 (Nat.le_refl _))).mono ?_
  rintro e w2 ⟨rfl, hb2⟩
  rw [H2.out]
  have HB2 := Lib.hid (bt hb1 hb2)
  clear hb1 hb2
  go_wp2_with fail
  refine (ccheck_walk root first _ l _ (HU.out.below HB2.out (Nat.le_refl _)) HL.out (fun j y hy => ⟨(HTL.out j y hy).1, (HTL.out j y hy).2.2.2⟩)).mono ?_
  rintro e w3 ⟨he, hb3⟩
  unfold CheckEnd at he
  rw [HT1.out] at he
  subst he
  have HB3 := Lib.hid (HB2.out.trans (hb3.mono HB2.out.size))
  clear hb3 HB2
  go_wp2_with fail
  refine (ccheck_walk root first _ m _ (HV.out.below HB3.out (Nat.le_refl _)) HM.out (fun j y hy => ⟨(HTM.out j y hy).1, (HTM.out j y hy).2.2.2⟩)).mono ?_
  rintro e w4 ⟨he, hb4⟩
  unfold CheckEnd at he
  rw [HT2.out] at he
  subst he
  have HB4 := Lib.hid (HB3.out.trans (hb4.mono HB3.out.size))
  clear hb4 HB3
  by_cases hc : er = 0 ∧ er' = 0 ∧ below ≤ a ∧ below ≤ b
  rotate_left
  · have HC := Lib.hid hc; clear hc
    by_cases c1 : er = 0
    rotate_left
    · go_wp2_with fail
      refine (alive20 _).mono ?_
      rintro e w5 ⟨rfl, hb5⟩
      go_wp2_with fail
      go_ret
      exact ⟨rfl, HB4.out.trans (hb5.mono HB4.out.size)⟩
    subst c1
    by_cases c2 : er' = 0
    rotate_left
    · go_wp2_with fail
      refine (alive20 _).mono ?_
      rintro e w5 ⟨rfl, hb5⟩
      go_wp2_with fail
      go_ret
      exact ⟨rfl, HB4.out.trans (hb5.mono HB4.out.size)⟩
    subst c2
    by_cases c3 : a < below
    · go_wp2_with fail
      refine (alive20 _).mono ?_
      rintro e w5 ⟨rfl, hb5⟩
      go_wp2_with fail
      go_ret
      exact ⟨rfl, HB4.out.trans (hb5.mono HB4.out.size)⟩
    have c3' : below ≤ a := by omega
    have c4 : b < below := by
      by_cases hh : b < below
      · exact hh
      · exact absurd ⟨rfl, rfl, c3', by omega⟩ HC.out
    go_wp2_with fail
    refine (alive20 _).mono ?_
    rintro e w5 ⟨rfl, hb5⟩
    go_wp2_with fail
    go_ret
    exact ⟨rfl, HB4.out.trans (hb5.mono HB4.out.size)⟩
  obtain ⟨rfl, rfl, c3, c4⟩ := hc
  have hRl : RightTo root first l below := by
    obtain ⟨k1, k2, k3⟩ := checkS_ok (root := root) (first := first) (l := l) (by rw [HT1.out])
    rw [HT1.out] at k3
    injection k3 with k3 _
    exact ⟨⟨k1, k2⟩, by omega⟩
  have hRm : RightTo root first m below := by
    obtain ⟨k1, k2, k3⟩ := checkS_ok (root := root) (first := first) (l := m) (by rw [HT2.out])
    rw [HT2.out] at k3
    injection k3 with k3 _
    exact ⟨⟨k1, k2⟩, by omega⟩
  have RL := Lib.hid hRl; clear hRl
  have RM := Lib.hid hRm; clear hRm
  go_wp2_with fail
  go_loopw [17, 76] (fun s i wr => ∃ k : Nat, k ≤ n ∧ i = .int .i64 k ∧ s = .bool (sameB l m below k) ∧ Below w.heap.size w wr) (fun _ i _ => n - (intOf i).toNat)
  case atStart => exact ⟨0, by omega, rfl, rfl, HB4.out⟩
  case round =>
    clear HB4
    obtain ⟨k, hk, rfl, rfl, hbel⟩ := hrel
    by_cases hlt : k < n
    · have hlt2 : (k : Int) < n := by omega
      have h00 : (0 : Int) ≤ (k : Int) := by omega
      obtain ⟨x, hx⟩ : ∃ x, l[k]? = some x := ⟨_, List.getElem?_eq_getElem (by rw [← HN.out]; omega)⟩
      rcases HU.out with ⟨h0, _⟩ | ⟨g, o, c', hq, hcc, hg, hat⟩
      · have := HN.out; rw [h0] at this; simp at this; omega
      rw [← HN.out] at hq
      injection hq with hq1 _ hq3
      subst hq1 hq3
      have hrange : wr.rangeAt g (o + k * 9) x.cells := fun q0 u hu => by rw [hbel.cell (by show g < w.heap.size; exact hg)]; exact hat k x hx q0 u hu
      have hrange2 : ∀ W : World, (∃ m, W = wr.drewN m) → W.rangeAt g (o + k * 9) x.cells := by rintro _ ⟨mq, rfl⟩; exact hrange
      obtain ⟨c0, c1, c2, c3, c4, c5, c6, c7, c8⟩ := sld_cells hrange
      have hsu := sameB_succ (b := m) (below := below) hx
      have HSU := Lib.hid hsu
      have HX := Lib.hid hx
      have HAT := Lib.hid hat
      have HBE := Lib.hid hbel
      have HR2 := Lib.hid hrange2
      clear hsu hx hat hrange hrange2 hbel
      cases hS : sameB l m below k with
      | false =>
        clear c0 c1 c2 c3 c4 c5 c6 c7 c8
        have HSS := Lib.hid hS; clear hS
        go_wp2_with fail
        refine wp_region_quiet_lit (by kernel_rfl) (by kernel_rfl) ?_
        repeat (first | go_big_quiet_step (fail))
        refine wpQuiet_nil ?_
        intro wq hwq
        obtain ⟨nq, hwq⟩ := hwq
        subst hwq
        go_wp2_with fail
        go_roundw
        case rel => exact ⟨k + 1, by omega, by go_num, by rw [HSU.out, HSS.out]; rfl, HBE.out.trans ⟨rfl, rfl, rfl, Nat.le_refl _, fun _ _ => rfl⟩⟩
        case measure => simp [intOf]; omega
      | true =>
        have HSS := Lib.hid hS; clear hS
        by_cases he : below ≤ x.r.epoch
        · go_wp2_with fail
          refine wp_region_quiet_lit (by kernel_rfl) (by kernel_rfl) ?_
          repeat (first | go_big_quiet_step (fail))
          refine wpQuiet_nil ?_
          intro wq hwq
          obtain ⟨nq, hwq⟩ := hwq
          subst hwq
          go_wp2_with fail
          go_roundw
          case rel => exact ⟨k + 1, by omega, by go_num, by rw [HSU.out, HSS.out]; simp [he], HBE.out.trans ⟨rfl, rfl, rfl, Nat.le_refl _, fun _ _ => rfl⟩⟩
          case measure => simp [intOf]; omega
        · have he' : x.r.epoch < below := by omega
          have hed : decide (below ≤ x.r.epoch) = false := by simp; omega
          by_cases hk2 : k < n'
          rotate_left
          · have hk3 : (n' : Int) ≤ k := by omega
            have hno : m[k]? = none := List.getElem?_eq_none (by rw [← HN'.out]; omega)
            have HNO := Lib.hid hno; clear hno
            go_wp2_with fail
            refine wp_region_quiet_lit (by kernel_rfl) (by kernel_rfl) ?_
            repeat (first | go_big_quiet_step (fail))
            refine wpQuiet_nil ?_
            intro wq hwq
            obtain ⟨nq, hwq⟩ := hwq
            subst hwq
            go_wp2_with fail
            go_roundw
            case rel => exact ⟨k + 1, by omega, by go_num, by rw [HSU.out, HSS.out, HNO.out]; simp [he'], HBE.out.trans ⟨rfl, rfl, rfl, Nat.le_refl _, fun _ _ => rfl⟩⟩
            case measure => simp [intOf]; omega
          · have hk3 : decide (k < n') = true := by simp; exact hk2
            have hk4 : (k : Int) < n' := by omega
            obtain ⟨y, hy⟩ : ∃ y, m[k]? = some y := ⟨_, List.getElem?_eq_getElem (by rw [← HN'.out]; exact hk2)⟩
            rcases HV.out with ⟨h0, _⟩ | ⟨g2, o2, c2', hq, hcc2, hg2, hat2⟩
            · have := HN'.out; rw [h0] at this; simp at this; omega
            rw [← HN'.out] at hq
            injection hq with hq1 _ hq3
            subst hq1 hq3
            have hr2 : ∀ W : World, (∃ m, W = wr.drewN m) → W.rangeAt g2 (o2 + k * 9) y.cells := by rintro _ ⟨mq, rfl⟩; exact fun q0 u hu => by show wr.cell? _ = _; rw [HBE.out.cell (by show g2 < w.heap.size; exact hg2)]; exact hat2 k y hy q0 u hu
            have HR3 := Lib.hid hr2
            have HY := Lib.hid hy
            clear hr2 hat2 hy
            by_cases hxy : x = y
            · subst hxy
              go_wp2_with fail
              refine wp_region_quiet_lit (by kernel_rfl) (by kernel_rfl) ?_
              repeat (first | ((with_reducible refine wpQuiet_load_at 36 (.tmp 97) _ _ x.cells _ (some 98) HR3.out Try.underlying36 rfl rsizeSld ?hg ?ho ?hds ?hx ?_); (case hg => rfl); (case ho => rfl); (case hds => rfl); (case hx => rfl); (intro Kq hKq; go_simp; refine hKq _ ?_; clear hKq Kq)) | ((with_reducible refine wpQuiet_load_at 36 (.tmp 101) _ _ x.cells _ (some 102) HR2.out Try.underlying36 rfl rsizeSld ?hg ?ho ?hds ?hx ?_); (case hg => rfl); (case ho => rfl); (case hds => rfl); (case hx => rfl); (intro Kq hKq; go_simp; refine hKq _ ?_; clear hKq Kq)) | ((with_reducible refine wpQuiet_eq_agg 36 36 (.tmp 98) (.tmp 102) x.cells.toArray x.cells.toArray true (some 103) guardSld (fun _ => (eqSldT x _)) ?hg ?ho ?hd ?hx ?hy ?_); (case hg => rfl); (case ho => rfl); (case hd => rfl); (case hx => rfl); (case hy => rfl); (intro Kq hKq; go_simp; refine hKq _ ?_; clear hKq Kq)) | go_big_quiet_step (fail))
              refine wpQuiet_nil ?_
              intro wq hwq
              obtain ⟨nq, hwq⟩ := hwq
              subst hwq
              go_wp2_with fail
              go_roundw
              case rel => exact ⟨k + 1, by omega, by go_num, by rw [HSU.out, HSS.out, HY.out]; simp, HBE.out.trans ⟨rfl, rfl, rfl, Nat.le_refl _, fun _ _ => rfl⟩⟩
              case measure => simp [intOf]; omega
            · have hyx : y ≠ x := fun e => hxy e.symm
              have HNE := Lib.hid hyx
              have HNX := Lib.hid hxy
              clear hyx hxy
              go_wp2_with fail
              refine wp_region_quiet_lit (by kernel_rfl) (by kernel_rfl) ?_
              repeat (first | ((with_reducible refine wpQuiet_load_at 36 (.tmp 97) _ _ y.cells _ (some 98) HR3.out Try.underlying36 rfl rsizeSld ?hg ?ho ?hds ?hx ?_); (case hg => rfl); (case ho => rfl); (case hds => rfl); (case hx => rfl); (intro Kq hKq; go_simp; refine hKq _ ?_; clear hKq Kq)) | ((with_reducible refine wpQuiet_load_at 36 (.tmp 101) _ _ x.cells _ (some 102) HR2.out Try.underlying36 rfl rsizeSld ?hg ?ho ?hds ?hx ?_); (case hg => rfl); (case ho => rfl); (case hds => rfl); (case hx => rfl); (intro Kq hKq; go_simp; refine hKq _ ?_; clear hKq Kq)) | ((with_reducible refine wpQuiet_eq_agg 36 36 (.tmp 98) (.tmp 102) y.cells.toArray x.cells.toArray false (some 103) guardSld (fun _ => (eqSldF HNE.out _)) ?hg ?ho ?hd ?hx ?hy ?_); (case hg => rfl); (case ho => rfl); (case hd => rfl); (case hx => rfl); (case hy => rfl); (intro Kq hKq; go_simp; refine hKq _ ?_; clear hKq Kq)) | go_big_quiet_step (fail))
              refine wpQuiet_nil ?_
              intro wq hwq
              obtain ⟨nq, hwq⟩ := hwq
              subst hwq
              go_wp2_with fail
              go_roundw
              case rel => exact ⟨k + 1, by omega, by go_num, by rw [HSU.out, HSS.out, HY.out]; simp [he', Ne.symm (show x ≠ y from HNX.out)], HBE.out.trans ⟨rfl, rfl, rfl, Nat.le_refl _, fun _ _ => rfl⟩⟩
              case measure => simp [intOf]; omega
    · obtain rfl : k = n := by omega
      obtain ⟨s1, hs1⟩ : ∃ s, sameB l m below k = s := ⟨_, rfl⟩
      rw [hs1]
      have HS1 := Lib.hid hs1; clear hs1
      have HBEL := Lib.hid hbel; clear hbel
      go_wp2_with fail
      go_loopw [17, 110] (fun s i wr => ∃ j : Nat, j ≤ n' ∧ i = .int .i64 j ∧ s = .bool (s1 && sameB m l below j) ∧ Below w.heap.size w wr) (fun _ i _ => n' - (intOf i).toNat)
      case atStart => exact ⟨0, by omega, rfl, by simp [sameB], HBEL.out⟩
      case round =>
        clear HBEL
        obtain ⟨j, hj, rfl, rfl, hbel⟩ := hrel
        by_cases hlt' : j < n'
        · have hlt2 : (j : Int) < n' := by omega
          have h00 : (0 : Int) ≤ (j : Int) := by omega
          obtain ⟨x, hx⟩ : ∃ x, m[j]? = some x := ⟨_, List.getElem?_eq_getElem (by rw [← HN'.out]; omega)⟩
          rcases HV.out with ⟨h0, _⟩ | ⟨g, o, c', hq, hcc, hg, hat⟩
          · have := HN'.out; rw [h0] at this; simp at this; omega
          rw [← HN'.out] at hq
          injection hq with hq1 _ hq3
          subst hq1 hq3
          have hrange : wr.rangeAt g (o + j * 9) x.cells := fun q0 u hu => by rw [hbel.cell (by show g < w.heap.size; exact hg)]; exact hat j x hx q0 u hu
          have hrange2 : ∀ W : World, (∃ m, W = wr.drewN m) → W.rangeAt g (o + j * 9) x.cells := by rintro _ ⟨mq, rfl⟩; exact hrange
          obtain ⟨c0, c1, c2, c3, c4, c5, c6, c7, c8⟩ := sld_cells hrange
          have hsu := sameB_succ (b := l) (below := below) hx
          have HSU := Lib.hid hsu
          have HX := Lib.hid hx
          have HAT := Lib.hid hat
          have HBE := Lib.hid hbel
          have HR2 := Lib.hid hrange2
          clear hsu hx hat hrange hrange2 hbel
          cases hS : (s1 && sameB m l below j) with
          | false =>
            clear c0 c1 c2 c3 c4 c5 c6 c7 c8
            have HSS := Lib.hid hS; clear hS
            go_wp2_with fail
            refine wp_region_quiet_lit (by kernel_rfl) (by kernel_rfl) ?_
            repeat (first | go_big_quiet_step (fail))
            refine wpQuiet_nil ?_
            intro wq hwq
            obtain ⟨nq, hwq⟩ := hwq
            subst hwq
            go_wp2_with fail
            go_roundw
            case rel => exact ⟨j + 1, by omega, by go_num, by rw [HSU.out, ← Bool.and_assoc, HSS.out]; rfl, HBE.out.trans ⟨rfl, rfl, rfl, Nat.le_refl _, fun _ _ => rfl⟩⟩
            case measure => simp [intOf]; omega
          | true =>
            have HSS := Lib.hid hS; clear hS
            by_cases he : below ≤ x.r.epoch
            · go_wp2_with fail
              refine wp_region_quiet_lit (by kernel_rfl) (by kernel_rfl) ?_
              repeat (first | go_big_quiet_step (fail))
              refine wpQuiet_nil ?_
              intro wq hwq
              obtain ⟨nq, hwq⟩ := hwq
              subst hwq
              go_wp2_with fail
              go_roundw
              case rel => exact ⟨j + 1, by omega, by go_num, by rw [HSU.out, ← Bool.and_assoc, HSS.out]; simp [he], HBE.out.trans ⟨rfl, rfl, rfl, Nat.le_refl _, fun _ _ => rfl⟩⟩
              case measure => simp [intOf]; omega
            · have he' : x.r.epoch < below := by omega
              have hed : decide (below ≤ x.r.epoch) = false := by simp; omega
              by_cases hk2 : j < k
              rotate_left
              · have hk3 : (k : Int) ≤ j := by omega
                have hno : l[j]? = none := List.getElem?_eq_none (by rw [← HN.out]; omega)
                have HNO := Lib.hid hno; clear hno
                go_wp2_with fail
                refine wp_region_quiet_lit (by kernel_rfl) (by kernel_rfl) ?_
                repeat (first | go_big_quiet_step (fail))
                refine wpQuiet_nil ?_
                intro wq hwq
                obtain ⟨nq, hwq⟩ := hwq
                subst hwq
                go_wp2_with fail
                go_roundw
                case rel => exact ⟨j + 1, by omega, by go_num, by rw [HSU.out, ← Bool.and_assoc, HSS.out, HNO.out]; simp [he'], HBE.out.trans ⟨rfl, rfl, rfl, Nat.le_refl _, fun _ _ => rfl⟩⟩
                case measure => simp [intOf]; omega
              · have hk3 : decide (j < k) = true := by simp; exact hk2
                have hk4 : (j : Int) < k := by omega
                obtain ⟨y, hy⟩ : ∃ y, l[j]? = some y := ⟨_, List.getElem?_eq_getElem (by rw [← HN.out]; exact hk2)⟩
                rcases HU.out with ⟨h0, _⟩ | ⟨g2, o2, c2', hq, hcc2, hg2, hat2⟩
                · have := HN.out; rw [h0] at this; simp at this; omega
                rw [← HN.out] at hq
                injection hq with hq1 _ hq3
                subst hq1 hq3
                have hr2 : ∀ W : World, (∃ m, W = wr.drewN m) → W.rangeAt g2 (o2 + j * 9) y.cells := by rintro _ ⟨mq, rfl⟩; exact fun q0 u hu => by show wr.cell? _ = _; rw [HBE.out.cell (by show g2 < w.heap.size; exact hg2)]; exact hat2 j y hy q0 u hu
                have HR3 := Lib.hid hr2
                have HY := Lib.hid hy
                clear hr2 hat2 hy
                by_cases hxy : x = y
                · subst hxy
                  go_wp2_with fail
                  refine wp_region_quiet_lit (by kernel_rfl) (by kernel_rfl) ?_
                  repeat (first | ((with_reducible refine wpQuiet_load_at 36 (.tmp 131) _ _ x.cells _ (some 132) HR2.out Try.underlying36 rfl rsizeSld ?hg ?ho ?hds ?hx ?_); (case hg => rfl); (case ho => rfl); (case hds => rfl); (case hx => rfl); (intro Kq hKq; go_simp; refine hKq _ ?_; clear hKq Kq)) | ((with_reducible refine wpQuiet_load_at 36 (.tmp 135) _ _ x.cells _ (some 136) HR3.out Try.underlying36 rfl rsizeSld ?hg ?ho ?hds ?hx ?_); (case hg => rfl); (case ho => rfl); (case hds => rfl); (case hx => rfl); (intro Kq hKq; go_simp; refine hKq _ ?_; clear hKq Kq)) | ((with_reducible refine wpQuiet_eq_agg 36 36 (.tmp 132) (.tmp 136) x.cells.toArray x.cells.toArray true (some 137) guardSld (fun _ => (eqSldT x _)) ?hg ?ho ?hd ?hx ?hy ?_); (case hg => rfl); (case ho => rfl); (case hd => rfl); (case hx => rfl); (case hy => rfl); (intro Kq hKq; go_simp; refine hKq _ ?_; clear hKq Kq)) | go_big_quiet_step (fail))
                  refine wpQuiet_nil ?_
                  intro wq hwq
                  obtain ⟨nq, hwq⟩ := hwq
                  subst hwq
                  go_wp2_with fail
                  go_roundw
                  case rel => exact ⟨j + 1, by omega, by go_num, by rw [HSU.out, ← Bool.and_assoc, HSS.out, HY.out]; simp, HBE.out.trans ⟨rfl, rfl, rfl, Nat.le_refl _, fun _ _ => rfl⟩⟩
                  case measure => simp [intOf]; omega
                · have hyx : x ≠ y := fun e => hxy e
                  have HNE := Lib.hid hyx
                  have HNX := Lib.hid hxy
                  clear hyx hxy
                  go_wp2_with fail
                  refine wp_region_quiet_lit (by kernel_rfl) (by kernel_rfl) ?_
                  repeat (first | ((with_reducible refine wpQuiet_load_at 36 (.tmp 131) _ _ x.cells _ (some 132) HR2.out Try.underlying36 rfl rsizeSld ?hg ?ho ?hds ?hx ?_); (case hg => rfl); (case ho => rfl); (case hds => rfl); (case hx => rfl); (intro Kq hKq; go_simp; refine hKq _ ?_; clear hKq Kq)) | ((with_reducible refine wpQuiet_load_at 36 (.tmp 135) _ _ y.cells _ (some 136) HR3.out Try.underlying36 rfl rsizeSld ?hg ?ho ?hds ?hx ?_); (case hg => rfl); (case ho => rfl); (case hds => rfl); (case hx => rfl); (intro Kq hKq; go_simp; refine hKq _ ?_; clear hKq Kq)) | ((with_reducible refine wpQuiet_eq_agg 36 36 (.tmp 132) (.tmp 136) x.cells.toArray y.cells.toArray false (some 137) guardSld (fun _ => (eqSldF HNE.out _)) ?hg ?ho ?hd ?hx ?hy ?_); (case hg => rfl); (case ho => rfl); (case hd => rfl); (case hx => rfl); (case hy => rfl); (intro Kq hKq; go_simp; refine hKq _ ?_; clear hKq Kq)) | go_big_quiet_step (fail))
                  refine wpQuiet_nil ?_
                  intro wq hwq
                  obtain ⟨nq, hwq⟩ := hwq
                  subst hwq
                  go_wp2_with fail
                  go_roundw
                  case rel => exact ⟨j + 1, by omega, by go_num, by rw [HSU.out, ← Bool.and_assoc, HSS.out, HY.out]; simp [he', Ne.symm (show x ≠ y from HNX.out)], HBE.out.trans ⟨rfl, rfl, rfl, Nat.le_refl _, fun _ _ => rfl⟩⟩
                  case measure => simp [intOf]; omega
        · obtain rfl : j = n' := by omega
          obtain ⟨s2, hs2⟩ : ∃ s, (s1 && sameB m l below j) = s := ⟨_, rfl⟩
          rw [hs2]
          have hsame : s2 = true ↔ SameBelow l m below ∧ SameBelow m l below := by
            rw [← hs2, Bool.and_eq_true, ← HS1.out, HN.out, HN'.out, sameB_all, sameB_all]
          have HSAME := Lib.hid hsame
          have HBEL := Lib.hid hbel
          clear hs2 hsame hbel
          have hend : ∀ W : World, Below w.heap.size w W → Calls Try.prog 16 #[.slice p k c, .slice q j d, .int .i64 below] W fun e w' => CForgeEnd l m below e ∧ Below W.heap.size W w' := fun W hW => cforge_walk _ _ l m below W (HU.out.below hW (Nat.le_refl _)) (HV.out.below hW (Nat.le_refl _)) HL.out HM.out HTL.out HTM.out
          have HEND := Lib.hid hend; clear hend
          cases s2 with
          | true =>
            go_wp2_with fail
            refine (HEND.out _ HBEL.out).mono ?_
            rintro e w5 ⟨he, hb5⟩
            have HB5 := Lib.hid (HBEL.out.trans (hb5.mono HBEL.out.size))
            clear hb5
            rcases he with ⟨k0, t, s, hp, ht, hso, hlt0, rfl, ts⟩ | ⟨hno, rfl⟩
            · exact absurd (HSAME.out.1 (by trivial)).2 (not_same hp ht hlt0)
            clear hno
            go_wp2_with fail
            refine (alive20 _).mono ?_
            rintro e w6 ⟨rfl, hb6⟩
            go_wp2_with fail
            go_ret
            exact ⟨rfl, HB5.out.trans (hb6.mono HB5.out.size)⟩
          | false =>
            go_wp2_with fail
            refine (HEND.out _ HBEL.out).mono ?_
            rintro e w5 ⟨he, hb5⟩
            have HB5 := Lib.hid (HBEL.out.trans (hb5.mono HBEL.out.size))
            clear hb5
            rcases he with ⟨k0, t, s, hp, ht, hso, hlt0, rfl, ts⟩ | ⟨hno, rfl⟩
            rotate_left
            · exfalso
              have h1 : SameBelow l m below ∧ SameBelow m l below := by
                refine same_of_no RL.out RM.out ?_
                rcases hno with h | ⟨k0, t, hp, ht, hq⟩
                · exact .inl h
                · refine .inr ⟨k0, t, hp, ht, ?_⟩
                  by_cases hh : t.r.epoch < below
                  · exact absurd ⟨part_said RM.out HM.out ht, hh⟩ hq
                  · omega
              have := HSAME.out.2 h1
              cases this
            obtain ⟨g1, g2, g3⟩ := part_tag RM.out ht
            have g0 := RM.out.row.ok.root
            have g4 := RM.out.row.ok.first0
            have HP := Lib.hid hp; clear hp
            have HTT := Lib.hid ht; clear ht
            have HSO := Lib.hid hso; clear hso
            have G3 := Lib.hid g3; clear g3
            have hsl : s.size ≤ 16777216 := by
              rw [ts.size]
              unfold saidC
              rw [List.length_append, List.length_append, beBytes_length]
              have := recPut_length HSO.out.2.2.2
              have e1 : (lastB (m.take k0)).data.toList.length = (lastB (m.take k0)).size := rfl
              have := HSO.out.1
              omega
            have TS := Lib.hid ts
            have G0 := Lib.hid g0
            clear ts g0
            go_wp2_with fail
            refine (at_walk root first t.r.epoch _).mono ?_
            rintro e w7 ⟨he, hb7⟩
            have hrl : root.data.toList.length = 32 := G0.out
            rcases he with ⟨c2, key, rfl, tk⟩ | ⟨c2, rfl⟩ | ⟨c2, rfl⟩
            rotate_left
            · have hq := HSO.out.2.2.2
              simp only [recOk, Bool.and_eq_true, decide_eq_true_eq] at hq
              omega
            · omega
            have HB7 := Lib.hid (HB5.out.trans (hb7.mono HB5.out.size))
            have TK := Lib.hid tk
            clear c2 tk hb7 hrl HB5
            go_wp2_with fail
            refine (macKey_walk key _).mono ?_
            rintro e w8 ⟨he, hb8⟩
            obtain ⟨mk, rfl, tm⟩ := he.yes (by rw [TK.out.size, atL_length])
            have HB8 := Lib.hid (HB7.out.trans (hb8.mono HB7.out.size))
            have hmk : mk.size ≤ 16777216 := by rw [tm.size, madeL_length]; omega
            have TM := Lib.hid tm
            clear hb8 tm HB7
            go_wp2_with fail
            refine (mac_walk mk s _ hmk hsl).mono ?_
            rintro e w9 ⟨tg, rfl, tt, hb9⟩
            have e1 : (tg.toList == t.tag.toList) = true := tt.same (Txt.self _) (by
              rw [show mk.data.toList = _ from TM.out, show key.data.toList = _ from TK.out, show s.data.toList = _ from TS.out, G3.out]
              rfl)
            have HB9 := Lib.hid (HB8.out.trans (hb9.mono HB8.out.size))
            clear hb9 tt HB8
            go_wp2_with fail
            clear e1
            go_loopw [193] (fun i wr => ∃ i0 : Nat, i0 ≤ k ∧ i = .int .i64 i0 ∧ Below w.heap.size w wr) (fun i _ => k - (intOf i).toNat)
            case atStart => exact ⟨0, by omega, rfl, HB9.out⟩
            case round =>
              obtain ⟨i, hi, rfl, hbel⟩ := hrel
              by_cases hlti : i < k
              · have hlt2 : (i : Int) < k := by omega
                obtain ⟨y, hy⟩ : ∃ y, l[i]? = some y := ⟨_, List.getElem?_eq_getElem (by rw [← HN.out]; exact hlti)⟩
                rcases HU.out with ⟨h0, _⟩ | ⟨g, o, c', hq, hcc, hg, hat⟩
                · have := HN.out; rw [h0] at this; simp at this; omega
                rw [← HN.out] at hq
                injection hq with hq1 _ hq3
                subst hq1 hq3
                have hrange : wr.rangeAt g (o + i * 9) y.cells := fun j u hu => by rw [hbel.cell (by show g < w.heap.size; exact hg)]; exact hat i y hy j u hu
                obtain ⟨c0, c1, c2, c3, c4, c5, c6, c7, c8⟩ := sld_cells hrange
                have hap := part_apart RL.out RM.out HL.out HM.out HP.out HTT.out hy
                have HAP := Lib.hid hap
                have hty := HTL.out i y hy
                have HTY := Lib.hid hty
                have hso := part_said RL.out HL.out hy
                have HSO2 := Lib.hid hso
                have hrow : ∀ W : World, Below w.heap.size w W → SldRow W (.slice (some ⟨g, o, none⟩) i c) (l.take i) := fun W hW => SldRow.takeK (HU.out.below hW (Nat.le_refl _)) HN.out hi
                have HROW := Lib.hid hrow
                have hkc : (i : Int) ≤ c := by have := HN.out; omega
                have htk : (l.take i).length ≤ 1048576 := by rw [List.length_take]; omega
                have HTKK := Lib.hid htk
                clear hrange hat hy hap hty hso hrow htk
                go_wp2_with (first
                  | ((with_reducible refine wpList_alloc_new 36 (Sld.cells ⟨Rec.zero, ⟨#[]⟩⟩) zeroSld (some 29) ?hgd ?ho ?hd ?_); (case hgd => rfl); (case ho => rfl); (case hd => rfl); (intro b5 w5 l5 B5 e5 z5))
                  | ((with_reducible refine wpList_store_new 36 (.tmp 29) (.tmp 197) b5 (Sld.cells ⟨Rec.zero, ⟨#[]⟩⟩) y.cells 36 B5 rfl rsizeSld (Sld.cells_one _) ?hgd ?ho ?hx ?hy ?_); (case hgd => rfl); (case ho => rfl); (case hx => rfl); (case hy => rfl); (intro w6 B6 o6); (have hb6 := o6.below (e5.mono l5) l5))
                  | fail)
                have HBEL := Lib.hid (hbel.trans (hb6.mono hbel.size))
                have HB6 := Lib.hid B6
                have hz6 := B6.lt
                have d0 := B6.cell (i := 0) rfl
                have d1 := B6.cell (i := 1) rfl
                have d2 := B6.cell (i := 2) rfl
                have d3 := B6.cell (i := 3) rfl
                have d4 := B6.cell (i := 4) rfl
                have d5 := B6.cell (i := 5) rfl
                have d6 := B6.cell (i := 6) rfl
                have d7 := B6.cell (i := 7) rfl
                clear hbel hb6 B5 B6 e5 l5 z5 o6 c0 c1 c2 c3 c4 c5 c6 c7 c8
                go_region_with ((first
                  | (go_at_call 21; refine (clast_walk _ (l.take i) _ (HROW.out _ HBEL.out.drew) HTKK.out).mono ?_; rintro e wA ⟨rfl, hbA⟩; have HA := HB6.out.drew.below hbA hz6; have y0 := HA.cell (i := 0) rfl; have y1 := HA.cell (i := 1) rfl; have y2 := HA.cell (i := 2) rfl; have y3 := HA.cell (i := 3) rfl; have y4 := HA.cell (i := 4) rfl; have y5 := HA.cell (i := 5) rfl; have y6 := HA.cell (i := 6) rfl; have y7 := HA.cell (i := 7) rfl; clear HA)
                  | (go_at_call 20; refine (csaid_walk (lastB (l.take i)) i y.r _ HTY.out.2.1 HTY.out.1 HTY.out.2.2.2 (by unfold Fits; omega)).mono ?_; rintro e wB ⟨he, hbB⟩; obtain ⟨s2, rfl, ts2⟩ := he.yes HSO2.out; clear he)
                  | fail))
                all_goals
                  have e2 : (s2.toList == s.toList) = false := ts2.other TS.out HAP.out
                  go_wp2_with fail
                  go_roundw
                  case rel => exact ⟨i + 1, by omega, by go_num, HBEL.out.drew.trans ((bt hbA hbB).mono HBEL.out.drew.size)⟩
                  case measure =>
                    show k - ((i : Int) + 1).toNat < k - (i : Int).toNat
                    omega
              · obtain rfl : i = k := by omega
                go_wp2_with fail
                refine (alive20 _).mono ?_
                rintro e w4 ⟨rfl, hb4⟩
                go_wp2_with fail
                go_ret
                exact ⟨rfl, hbel.trans (hb4.mono hbel.size)⟩

set_option maxRecDepth 100000 in
set_option maxHeartbeats 4000000 in
theorem chainSound_law (root : ByteArray) (first : Int) (u : Value) (l : List Sld) (v : Value) (m : List Sld) (below : Int) (w : World) (hu : SldsIn w u l) (hv : SldsIn w v m) :
    Calls Try.prog 4 #[.string root, .int .i64 first, u, v, .int .i64 below] w fun e w' => e = .returned (.bool true) ∧ Below w.heap.size w w' := by
  have tame : ∀ {x : Value} {r : List Sld}, SldsIn w x r → fewS r = true → SldTame r := by
    intro x r hr hf j y hy
    have := fewS_each hf j y hy
    exact ⟨by omega, by omega, by omega, (hr.fits j y hy).epoch⟩
  cases h1 : fewS l with
  | false =>
    obtain ⟨p, c, rfl⟩ := hu.row.shape
    obtain ⟨q, d, rfl⟩ := hv.row.shape
    obtain ⟨n, hn⟩ : ∃ n, n = l.length := ⟨_, rfl⟩
    obtain ⟨n', hn'⟩ : ∃ n', n' = m.length := ⟨_, rfl⟩
    have HU := Lib.hid hu.row
    rw [← hn] at HU ⊢
    rw [← hn']
    have H1 := Lib.hid h1
    clear hu hv h1 hn hn' tame
    go_enter Try.func4, Try.ntmps4
    go_wp2_with fail
    refine (few20_walk _ l _ HU.out).mono ?_
    rintro e w1 ⟨rfl, hb1⟩
    rw [H1.out]
    go_wp2_with fail
    refine (alive20 _).mono ?_
    rintro e w2 ⟨rfl, hb2⟩
    go_wp2_with fail
    go_ret
    exact ⟨rfl, bt hb1 hb2⟩
  | true =>
    cases h2 : fewS m with
    | false =>
      obtain ⟨p, c, rfl⟩ := hu.row.shape
      obtain ⟨q, d, rfl⟩ := hv.row.shape
      obtain ⟨n, hn⟩ : ∃ n, n = l.length := ⟨_, rfl⟩
      obtain ⟨n', hn'⟩ : ∃ n', n' = m.length := ⟨_, rfl⟩
      have HU := Lib.hid hu.row
      have HV := Lib.hid hv.row
      rw [← hn] at HU ⊢
      rw [← hn'] at HV ⊢
      have H1 := Lib.hid h1
      have H2 := Lib.hid h2
      clear hu hv h1 h2 hn hn' tame
      go_enter Try.func4, Try.ntmps4
      go_wp2_with fail
      refine (few20_walk _ l _ HU.out).mono ?_
      rintro e w1 ⟨rfl, hb1⟩
      rw [H1.out]
      go_wp2_with fail
      refine (few20_walk _ m _ (HV.out.below hb1 (Nat.le_refl _))).mono ?_
      rintro e w2 ⟨rfl, hb2⟩
      rw [H2.out]
      go_wp2_with fail
      refine (alive20 _).mono ?_
      rintro e w3 ⟨rfl, hb3⟩
      go_wp2_with fail
      go_ret
      exact ⟨rfl, bt hb1 (bt hb2 hb3)⟩
    | true =>
      exact chainSound_walk root first u v l m below w hu.row hv.row (by have := fewS_len h1; omega) (by have := fewS_len h2; omega) (tame hu h1) (tame hv h2) h1 h2
end Go.Proofs.Ytmiikdkdccheeaa
