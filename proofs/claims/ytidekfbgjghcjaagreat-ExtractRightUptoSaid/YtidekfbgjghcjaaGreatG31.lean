/- Walks of the documents' Sums and Tagged (chapter 32). Walks of the documents' Made (chapter 32). Walks of extract.Right at two texts with one sum, and at no kind (chapter 32). -/
import Derived.Test.YtidekfbgjghcjaaGreatExt1
import Derived.Test.YtidekfbgjghcjaaGreatG4
import Derived.Test.YtidekfbgjghcjaaGreatG5
import Derived.Test.YtidekfbgjghcjaaGreatRef10
import Derived.Test.YtidekfbgjghcjaaGreatG8
import Derived.Test.YtidekfbgjghcjaaGreatG9
import Derived.Test.YtidekfbgjghcjaaGreatG2
import Derived.Test.YtidekfbgjghcjaaGreatLoad
namespace Go.Proofs.YtidekfbgjghcjaaGreat
set_option linter.unusedSimpArgs false
set_option linter.unusedVariables false
open Go Go.RowKit

def sumsS (a b : ByteArray) : Bool := decide (a ≠ b) && decide (sha a.data.toList = sha b.data.toList)
set_option maxRecDepth 100000 in
theorem rsums_walk (a b : ByteArray) (w : World) (ha : a.size ≤ 16777216) (hb : b.size ≤ 16777216) :
    Calls Tryz.prog 18 #[.string a, .string b] w fun e w' => e = .returned (.bool (sumsS a b)) ∧ Below w.heap.size w w' := by
  obtain ⟨q, hq⟩ : ∃ q, sumsS a b = q := ⟨_, rfl⟩
  rw [hq]
  have HQ := Lib.hid hq
  clear hq
  go_enter Tryz.func18, Tryz.ntmps18
  by_cases hab : a = b
  · subst hab
    have e1 : (a.toList != a.toList) = false := by simp
    have e2 : (a.toList == a.toList) = true := by simp
    have hq := HQ.out
    unfold sumsS at hq
    simp at hq
    subst hq
    clear HQ
    go_wp2_with fail
    go_ret
    exact ⟨rfl, Below.refl _ _⟩
  have e1 : (a.toList == b.toList) = false := by rw [bytesEqB32]; exact decide_eq_false hab
  have hq := HQ.out
  unfold sumsS at hq
  rw [decide_eq_true hab, Bool.true_and] at hq
  have HQ2 := Lib.hid hq
  clear hq HQ hab
  go_wp2_with fail
  refine (rsum_walk a _ (by omega)).mono ?_
  rintro e w1 ⟨s, rfl, ts, hb1⟩
  have TS := Lib.hid ts
  have HB1 := Lib.hid hb1
  clear ts hb1
  go_wp2_with fail
  refine (rsum_walk b _ (by omega)).mono ?_
  rintro e w2 ⟨t, rfl, tt, hb2⟩
  have e2 : (s.toList == t.toList) = q := by rw [bytesEqB32, ← HQ2.out, Bool.eq_iff_iff, decide_eq_true_eq, decide_eq_true_eq, TS.out.beq tt]
  have HB2 := Lib.hid (HB1.out.trans (hb2.mono HB1.out.size))
  clear tt hb2
  go_wp2_with fail
  go_ret
  exact ⟨rfl, HB2.out⟩
set_option maxRecDepth 100000 in
set_option maxHeartbeats 1000000 in
theorem rtagged_walk (root : ByteArray) (first epoch : Int) (lbl msg tag : ByteArray) (w : World) (hl : saidOk lbl.data.toList [] = true) (hm : msg.size ≤ 16777216) :
    Calls Tryz.prog 19 #[.string root, .int .i64 first, .int .i64 epoch, .string lbl, .string msg, .string tag] w fun e w' => e = .returned (.bool (taggedS root first ⟨0, ⟨#[]⟩, ⟨#[]⟩, epoch, msg, tag⟩ lbl.data.toList)) ∧ Below w.heap.size w w' := by
  obtain ⟨q, hq⟩ : ∃ q, taggedS root first ⟨0, ⟨#[]⟩, ⟨#[]⟩, epoch, msg, tag⟩ lbl.data.toList = q := ⟨_, rfl⟩
  rw [hq]
  have HQ := Lib.hid hq
  have HLB := Lib.hid hl
  clear hq hl
  go_enter Tryz.func19, Tryz.ntmps19
  go_wp2_with fail
  refine (rat_walk root first epoch _).mono ?_
  rintro e w1 ⟨he, hb1⟩
  have HB1 := Lib.hid hb1
  clear hb1
  rcases he with ⟨c, key, rfl, tk⟩ | ⟨c, rfl⟩ | ⟨c, rfl⟩
  · have HC := Lib.hid (show tagIn root first ⟨0, ⟨#[]⟩, ⟨#[]⟩, epoch, msg, tag⟩ from c)
    have TK := Lib.hid tk
    clear c tk
    go_wp2_with fail
    refine (rmade_walk key lbl _ [] _ (IntRow.nil _) (fun j x h => by simp at h) (by simp)).mono ?_
    rintro e w2 ⟨he, hb2⟩
    have HB2 := Lib.hid (HB1.out.trans (hb2.mono HB1.out.size))
    clear hb2
    rcases he with ⟨_, k, rfl, tm⟩ | ⟨h, _⟩
    rotate_left
    · exact absurd ⟨by show key.data.toList.length = 32; rw [show key.data.toList = _ from TK.out, atL_length], HLB.out⟩ h
    have TM := Lib.hid tm
    clear tm
    go_wp2_with fail
    refine (rmac_walk k msg _ (by rw [TM.out.size, madeL_length]; omega) hm).mono ?_
    rintro e w3 ⟨t, rfl, tt, hb3⟩
    have e2 : (t.toList == tag.toList) = q := by
      rw [bytesEqB32, ← HQ.out, taggedS, if_pos HC.out, Bool.eq_iff_iff, decide_eq_true_eq, decide_eq_true_eq, tt.beq (Txt.self _), show k.data.toList = _ from TM.out, show key.data.toList = _ from TK.out]
      rfl
    have HB3 := Lib.hid (HB2.out.trans (hb3.mono HB2.out.size))
    clear tt hb3
    go_wp2_with fail
    go_ret
    exact ⟨rfl, HB3.out⟩
  · have hq := HQ.out
    rw [taggedS, if_neg (show ¬ tagIn root first ⟨0, ⟨#[]⟩, ⟨#[]⟩, epoch, msg, tag⟩ from fun h => by obtain ⟨h1, h2, h3, h4, h5, h6⟩ := h; simp only at h1 h2 h3 h6; omega)] at hq
    subst hq
    clear c HQ
    go_wp2_with fail
    refine (rmade_walk ⟨#[]⟩ lbl _ [] _ (IntRow.nil _) (fun j x h => by simp at h) (by simp)).mono ?_
    rintro e w2 ⟨he, hb2⟩
    have HB2 := Lib.hid (HB1.out.trans (hb2.mono HB1.out.size))
    clear hb2
    rcases he with ⟨h, _⟩ | ⟨h, rfl⟩
    · exact absurd h.1 (by decide)
    clear h
    go_wp2_with fail
    go_ret
    exact ⟨rfl, HB2.out⟩
  · have hq := HQ.out
    rw [taggedS, if_neg (show ¬ tagIn root first ⟨0, ⟨#[]⟩, ⟨#[]⟩, epoch, msg, tag⟩ from fun h => by obtain ⟨h1, h2, h3, h4, h5, h6⟩ := h; simp only at h1 h2 h3 h6; omega)] at hq
    subst hq
    clear c HQ
    go_wp2_with fail
    refine (rmade_walk ⟨#[]⟩ lbl _ [] _ (IntRow.nil _) (fun j x h => by simp at h) (by simp)).mono ?_
    rintro e w2 ⟨he, hb2⟩
    have HB2 := Lib.hid (HB1.out.trans (hb2.mono HB1.out.size))
    clear hb2
    rcases he with ⟨h, _⟩ | ⟨h, rfl⟩
    · exact absurd h.1 (by decide)
    clear h
    go_wp2_with fail
    go_ret
    exact ⟨rfl, HB2.out⟩
end Go.Proofs.YtidekfbgjghcjaaGreat

namespace Go.Proofs.YtidekfbgjghcjaaGreat
set_option linter.unusedSimpArgs false
set_option linter.unusedVariables false
open Go Go.RowKit

set_option maxRecDepth 100000 in
set_option maxHeartbeats 2000000 in
theorem rmade32_walk (v : Value) (l : List Sld) (msg : ByteArray) (w : World) (h : SldRow w v l) (hl : l.length ≤ 1048576) (ht : SldTame l) :
    Calls Tryz.prog 20 #[v, .string msg] w fun e w' => MadeEnd32 l msg.data.toList e ∧ Below w.heap.size w w' := by
  obtain ⟨p, c, rfl⟩ := h.shape
  obtain ⟨n, hn⟩ : ∃ n, n = l.length := ⟨_, rfl⟩
  rw [← hn] at h ⊢
  have hn2 : n ≤ 1048576 := by omega
  have HN := Lib.hid hn
  have HT := Lib.hid ht
  have HR := Lib.hid h; clear h hl hn ht
  go_enter Tryz.func20, Tryz.ntmps20
  go_wp2_with fail
  go_loopw [5] (fun i wr => ∃ k : Nat, k ≤ n ∧ i = .int .i64 k ∧ (∀ j, j < k → ¬ MadeAt l msg.data.toList j) ∧ Below w.heap.size w wr) (fun i _ => n - (intOf i).toNat)
  case atStart => exact ⟨0, by omega, rfl, fun j hj => by omega, Below.refl _ _⟩
  case round =>
    obtain ⟨k, hk, rfl, hno, hbel⟩ := hrel
    have HNO := Lib.hid hno; clear hno
    have HBR := Lib.hid hbel; clear hbel
    by_cases hlt : k < n
    · have hlt' : (k : Int) < n := by omega
      obtain ⟨y, hy⟩ : ∃ y, l[k]? = some y := ⟨_, List.getElem?_eq_getElem (by rw [← HN.out]; exact hlt)⟩
      rcases HR.out with ⟨h0, _⟩ | ⟨g, o, c', hq, hcc, hg, hat⟩
      · have := HN.out; rw [h0] at this; simp at this; omega
      rw [← HN.out] at hq
      injection hq with hq1 _ hq3
      subst hq1 hq3
      have HRG := Lib.hid (show ∀ W : World, Below w.heap.size w W → W.rangeAt g (o + k * 9) y.r.cells from fun W hW j u hu => by
        rw [hW.cell (by show g < w.heap.size; exact hg)]
        have hj : j < 8 := (List.getElem?_eq_some_iff.1 hu).1
        refine hat k y hy j u ?_
        rw [← hu]
        rcases j with _ | _ | _ | _ | _ | _ | _ | _ | j <;> first | rfl | omega)
      have HY := Lib.hid hy
      have HTY := Lib.hid (HT.out k y hy)
      obtain ⟨was, hwas⟩ : ∃ was, was = lastB (l.take k) := ⟨_, rfl⟩
      have HW := Lib.hid hwas
      have HTAKE := Lib.hid (show ∀ W : World, Below w.heap.size w W → SldRow W (.slice (some ⟨g, o, none⟩) k c) (l.take k) from fun W hW => SldRow.takeK (HR.out.below hW (Nat.le_refl _)) HN.out hk)
      have HLT := Lib.hid (show (l.take k).length ≤ 1048576 by rw [List.length_take]; omega)
      have HWS := Lib.hid (show was.size ≤ 1048576 by
        rw [hwas]
        unfold lastB
        split
        · decide
        · next z hz =>
          obtain ⟨i, hi⟩ := List.getElem?_of_mem (List.mem_of_getLast? hz)
          have hi2 : l[i]? = some z := by
            have hik : i < k := by have := (List.getElem?_eq_some_iff.1 hi).1; rw [List.length_take] at this; omega
            rw [List.getElem?_take_of_lt hik] at hi
            exact hi
          exact (HT.out i z hi2).2.2.1)
      have hkc : (k : Int) ≤ c := by have := HN.out; omega
      have hk0 : (0 : Int) ≤ k := by omega
      clear hat hy hwas
      go_wp2_with fail
      have hS0 : (fun w' => w'.rangeAt g (o + k * 9) y.r.cells) wr.drew := HRG.out _ HBR.out.drew
      refine wp_region_held_drew (S := fun w' => w'.rangeAt g (o + k * 9) y.r.cells) (by kernel_rfl) (hS0) (fun hHeld => ?_)
      clear hS0
      refine wpAnyH_take (i := 0) (v := ?_) rfl (by kernel_rfl) (by kernel_rfl) (by kernel_rfl) (fun _ _ _ h => h) (Or.inl ⟨by rfl, ?_⟩) (by assumption) ?_
      rotate_left
      · intro w hSw; (try dsimp only at hSw); go_simp; first | done | with_reducible rfl
      (try simp only [Act.put, Array.getInternal_eq_getElem, List.getElem_toArray, List.getElem_cons_succ, List.getElem_cons_zero, List.setIfInBounds_toArray, List.set_cons_zero, List.set_cons_succ])
      refine wpAnyH_take (i := 1) (v := ?_) rfl (by kernel_rfl) (by kernel_rfl) (by kernel_rfl) (fun _ _ _ h => h) (Or.inl ⟨by rfl, ?_⟩) (by assumption) ?_
      rotate_left
      · intro w hSw; (try dsimp only at hSw); go_simp; first | done | with_reducible rfl
      (try simp only [Act.put, Array.getInternal_eq_getElem, List.getElem_toArray, List.getElem_cons_succ, List.getElem_cons_zero, List.setIfInBounds_toArray, List.set_cons_zero, List.set_cons_succ])
      refine wpAnyH_take (i := 2) (v := ?_) rfl (by kernel_rfl) (by kernel_rfl) (by kernel_rfl) (fun _ _ _ h => h) (Or.inl ⟨by rfl, ?_⟩) (by assumption) ?_
      rotate_left
      · intro w hSw; (try dsimp only at hSw); go_simp; first | done | with_reducible rfl
      (try simp only [Act.put, Array.getInternal_eq_getElem, List.getElem_toArray, List.getElem_cons_succ, List.getElem_cons_zero, List.setIfInBounds_toArray, List.set_cons_zero, List.set_cons_succ])
      refine wpAnyH_take (i := 4) (v := ?_) rfl (by kernel_rfl) (by kernel_rfl) (by kernel_rfl) (fun _ _ _ h => h) (Or.inl ⟨by rfl, ?_⟩) (by assumption) ?_
      rotate_left
      · intro w hSw; (try dsimp only at hSw); go_simp; first | done | with_reducible rfl
      (try simp only [Act.put, Array.getInternal_eq_getElem, List.getElem_toArray, List.getElem_cons_succ, List.getElem_cons_zero, List.setIfInBounds_toArray, List.set_cons_zero, List.set_cons_succ])
      refine wpAnyH_take (i := 5) (v := ?_) rfl (by kernel_rfl) (by kernel_rfl) (by kernel_rfl) (fun _ _ _ h => h) (Or.inl ⟨by rfl, ?_⟩) (by assumption) ?_
      rotate_left
      · intro w hSw; (try dsimp only at hSw); go_simp; first | done | with_reducible rfl
      (try simp only [Act.put, Array.getInternal_eq_getElem, List.getElem_toArray, List.getElem_cons_succ, List.getElem_cons_zero, List.setIfInBounds_toArray, List.set_cons_zero, List.set_cons_succ])
      refine wpAnyH_take (i := 6) (v := ?_) rfl (by kernel_rfl) (by kernel_rfl) (by kernel_rfl) (fun _ _ _ h => h) (Or.inl ⟨by rfl, ?_⟩) (by assumption) ?_
      rotate_left
      · intro w hSw; (try dsimp only at hSw); go_simp; first | done | with_reducible rfl
      (try simp only [Act.put, Array.getInternal_eq_getElem, List.getElem_toArray, List.getElem_cons_succ, List.getElem_cons_zero, List.setIfInBounds_toArray, List.set_cons_zero, List.set_cons_succ])
      refine wpAnyH_take (i := 7) (v := ?_) rfl (by kernel_rfl) (by kernel_rfl) (by kernel_rfl) (fun _ _ _ h => h) (Or.inl ⟨by rfl, ?_⟩) (by assumption) ?_
      rotate_left
      · intro w hSw; (try dsimp only at hSw); go_simp; first | done | with_reducible rfl
      (try simp only [Act.put, Array.getInternal_eq_getElem, List.getElem_toArray, List.getElem_cons_succ, List.getElem_cons_zero, List.setIfInBounds_toArray, List.set_cons_zero, List.set_cons_succ])
      refine wpAnyH_take (i := 8) (v := ?_) rfl (by kernel_rfl) (by kernel_rfl) (by kernel_rfl) (fun _ _ _ h => h) (Or.inl ⟨by rfl, ?_⟩) (by assumption) ?_
      rotate_left
      · intro w hSw; (try dsimp only at hSw); go_simp; first | done | with_reducible rfl
      (try simp only [Act.put, Array.getInternal_eq_getElem, List.getElem_toArray, List.getElem_cons_succ, List.getElem_cons_zero, List.setIfInBounds_toArray, List.set_cons_zero, List.set_cons_succ])
      refine wpAnyH_take (i := 9) (v := .agg (y.r.cells).toArray) rfl (by kernel_rfl) (by kernel_rfl) (by kernel_rfl) (fun _ _ _ h => h) (yieldsIf_load_mid (by rfl) 25 (.tmp 23) rfl g (o + k * 9) rfl (y.r.cells) _ (fun w h => h) Tryz.underlying25 rfl rsizeRec) (by assumption) ?_
      (try simp only [Act.put, Array.getInternal_eq_getElem, List.getElem_toArray, List.getElem_cons_succ, List.getElem_cons_zero, List.setIfInBounds_toArray, List.set_cons_zero, List.set_cons_succ])
      refine wpAnyH_ready (rs := [3]) (by kernel_rfl) (by simp) ?_
      refine AllReadyH.cons rfl (fun K hK => ?_) AllReadyH.nil
      go_simp
      refine (rlast_walk _ (l.take k) _ (HTAKE.out _ HBR.out.drew) HLT.out).mono ?_
      rintro e w1 ⟨rfl, hb1⟩
      rw [← HW.out]
      have HB1 := Lib.hid (HBR.out.drew.trans (hb1.mono HBR.out.drew.size))
      clear hb1
      (try go_wp2_with fail)
      refine hK.out _ _ (HRG.out _ HB1.out) (fun hHeld2 => ?_)
      clear hK K hHeld
      have hHeld := hHeld2
      clear hHeld2
      (try simp only [Act.put, Array.getInternal_eq_getElem, List.getElem_toArray, List.getElem_cons_succ, List.getElem_cons_zero, List.setIfInBounds_toArray, List.set_cons_zero, List.set_cons_succ])
      refine wpAnyH_ready (rs := [10]) (by kernel_rfl) (by simp) ?_
      refine AllReadyH.cons rfl (fun K hK => ?_) AllReadyH.nil
      go_simp
      refine (rcsaid_walk was (k : Int) y.r _ HTY.out.2.1 HTY.out.1 HTY.out.2.2.2 (by have := hn2; unfold Fits; omega) HWS.out).mono ?_
      rintro e w2 ⟨he, hb2⟩
      have HB2 := Lib.hid (HB1.out.trans (hb2.mono HB1.out.size))
      clear hb2
      obtain ⟨s, sok, rfl, hs⟩ : ∃ (s : ByteArray) (sok : Bool), e = .returned (.tuple #[.string s, .bool sok]) ∧ ((sok = true ∧ saidCOk was k y.r ∧ Txt s (saidC was.data.toList k y.r)) ∨ (sok = false ∧ ¬ saidCOk was k y.r)) := by
        rcases he with ⟨h1, s, h2, h3⟩ | ⟨h1, h2⟩
        · exact ⟨s, true, h2, .inl ⟨rfl, h1, h3⟩⟩
        · exact ⟨_, false, h2, .inr ⟨rfl, h1⟩⟩
      have HSO := Lib.hid hs
      clear hs he
      (try go_wp2_with fail)
      refine hK.out _ _ (HRG.out _ HB2.out) (fun hHeld2 => ?_)
      clear hK K hHeld
      have hHeld := hHeld2
      clear hHeld2
      (try simp only [Act.put, Array.getInternal_eq_getElem, List.getElem_toArray, List.getElem_cons_succ, List.getElem_cons_zero, List.setIfInBounds_toArray, List.set_cons_zero, List.set_cons_succ])
      refine wpAnyH_take (i := 11) (v := ?_) rfl (by kernel_rfl) (by kernel_rfl) (by kernel_rfl) (fun _ _ _ h => h) (Or.inl ⟨by rfl, ?_⟩) (by assumption) ?_
      rotate_left
      · intro w hSw; (try dsimp only at hSw); go_simp; first | done | with_reducible rfl
      (try simp only [Act.put, Array.getInternal_eq_getElem, List.getElem_toArray, List.getElem_cons_succ, List.getElem_cons_zero, List.setIfInBounds_toArray, List.set_cons_zero, List.set_cons_succ])
      refine wpAnyH_take (i := 12) (v := ?_) rfl (by kernel_rfl) (by kernel_rfl) (by kernel_rfl) (fun _ _ _ h => h) (Or.inl ⟨by rfl, ?_⟩) (by assumption) ?_
      rotate_left
      · intro w hSw; (try dsimp only at hSw); go_simp; first | done | with_reducible rfl
      (try simp only [Act.put, Array.getInternal_eq_getElem, List.getElem_toArray, List.getElem_cons_succ, List.getElem_cons_zero, List.setIfInBounds_toArray, List.set_cons_zero, List.set_cons_succ])
      refine wpAnyH_take (i := 13) (v := ?_) rfl (by kernel_rfl) (by kernel_rfl) (by kernel_rfl) (fun _ _ _ h => h) (Or.inl ⟨by rfl, ?_⟩) (by assumption) ?_
      rotate_left
      · intro w hSw; (try dsimp only at hSw); go_simp; first | done | with_reducible rfl
      (try simp only [Act.put, Array.getInternal_eq_getElem, List.getElem_toArray, List.getElem_cons_succ, List.getElem_cons_zero, List.setIfInBounds_toArray, List.set_cons_zero, List.set_cons_succ])
      refine wpAnyH_take (i := 14) (v := ?_) rfl (by kernel_rfl) (by kernel_rfl) (by kernel_rfl) (fun _ _ _ h => h) (Or.inl ⟨by rfl, ?_⟩) (by assumption) ?_
      rotate_left
      · intro w hSw; (try dsimp only at hSw); go_simp; first | done | with_reducible rfl
      (try simp only [Act.put, Array.getInternal_eq_getElem, List.getElem_toArray, List.getElem_cons_succ, List.getElem_cons_zero, List.setIfInBounds_toArray, List.set_cons_zero, List.set_cons_succ])
      refine wpAnyH_take (i := 15) (v := ?_) rfl (by kernel_rfl) (by kernel_rfl) (by kernel_rfl) (fun _ _ _ h => h) (Or.inl ⟨by rfl, ?_⟩) (by assumption) ?_
      rotate_left
      · intro w hSw; (try dsimp only at hSw); go_simp; first | done | with_reducible rfl
      (try simp only [Act.put, Array.getInternal_eq_getElem, List.getElem_toArray, List.getElem_cons_succ, List.getElem_cons_zero, List.setIfInBounds_toArray, List.set_cons_zero, List.set_cons_succ])
      refine wpAnyH_done (by kernel_rfl) ?_ _
      have hnext : ¬ MadeAt l msg.data.toList k → ∀ j, j < k + 1 → ¬ MadeAt l msg.data.toList j := fun hh j hj => by
        by_cases hjk : j < k
        · exact HNO.out j hjk
        · obtain rfl : j = k := by omega
          exact hh
      have HNX := Lib.hid hnext
      clear hnext
      rcases HSO.out with ⟨rfl, hok, ts⟩ | ⟨rfl, hok⟩
      · have HOK := Lib.hid hok
        have TS := Lib.hid ts
        clear hok ts HSO
        by_cases hm : s.data.toList = msg.data.toList
        · have q1 : (s.toList == msg.toList) = true := by rw [bytesEqB32, decide_eq_true_eq]; exact (Txt.self s).eq hm.symm
          have HM := Lib.hid hm
          clear hm
          go_wp2_with fail
          go_ret
          refine ⟨⟨true, rfl, ⟨fun _ => ⟨k, y, HY.out, ?_, ?_⟩, fun _ => rfl⟩⟩, HB2.out⟩
          · rw [← HW.out]; exact HOK.out
          · rw [← HW.out, ← HM.out]; exact TS.out.symm
        · have q1 : (s.toList == msg.toList) = false := Txt.other (Txt.self _) (Txt.self _) hm
          have HM := Lib.hid hm
          clear hm
          go_wp2_with fail
          go_roundw
          case rel =>
            refine ⟨k + 1, by omega, by go_num, HNX.out ?_, HB2.out⟩
            rintro ⟨y', hy', h1, h2⟩
            rw [HY.out] at hy'
            cases hy'
            rw [← HW.out] at h2
            exact HM.out (by rw [← h2]; exact TS.out)
          case measure => simp [intOf]; omega
      · have HOK := Lib.hid hok
        clear hok HSO
        go_wp2_with fail
        go_roundw
        case rel =>
          refine ⟨k + 1, by omega, by go_num, HNX.out ?_, HB2.out⟩
          rintro ⟨y', hy', h1, h2⟩
          rw [HY.out] at hy'
          cases hy'
          rw [← HW.out] at h1
          exact HOK.out h1
        case measure => simp [intOf]; omega
    · obtain rfl : k = n := by omega
      go_wp2_with fail
      go_ret
      refine ⟨⟨false, rfl, ⟨fun h => (by cases h), fun ⟨j, hj⟩ => ?_⟩⟩, HBR.out⟩
      have hj0 := hj
      obtain ⟨y, hy, _⟩ := hj0
      have := (List.getElem?_eq_some_iff.1 hy).1
      exact absurd hj (HNO.out j (by rw [HN.out]; exact this))
end Go.Proofs.YtidekfbgjghcjaaGreat

namespace Go.Proofs.YtidekfbgjghcjaaGreat
set_option linter.unusedSimpArgs false
set_option linter.unusedVariables false
open Go Go.RowKit

theorem catL_one (a : ByteArray) : catL [a] = a.data.toList := by simp [catL]
set_option maxRecDepth 100000 in
set_option maxHeartbeats 2000000 in
theorem right32_same (root : ByteArray) (first : Int) (v vc vh : Value) (below : Int) (epoch : Int) (fa fm ft : ByteArray) (w : World) (hv1 : v.oneCell' = true) (hc1 : vc.oneCell' = true) (hh1 : vh.oneCell' = true) :
    Calls Tryz.prog 22 #[.string root, .int .i64 first, .agg #[v, vc, vh], .int .i64 below, (⟨1, fa, fa, epoch, fm, ft⟩ : Fnd).v] w fun e w' => e = .returned (.bool false) ∧ Below w.heap.size w w' := by
  go_enter Tryz.func22, Tryz.ntmps22
  go_wp2_with (first
    | ((with_reducible refine wpList_box_new 56 (.tmp 2) ([v, vc, vh]) (some 7) ?hgd ?ho ?hd ?hx ?_); (case hgd | ho | hd | hx => rfl); (intro b3 w3 l3 B3 e3 z3))
    | ((with_reducible refine wpList_box_new 58 (.tmp 4) ((⟨1, fa, fa, epoch, fm, ft⟩ : Fnd).cells) (some 9) ?hgd ?ho ?hd ?hx ?_); (case hgd | ho | hd | hx => rfl); (intro b5 w5 l5 B5 e5 z5); have c0 := B5.cell (i := 0) rfl)
    | fail)
  have HX5 := Lib.hid B5
  have HB5 := Lib.hid (show Below w.heap.size w w5 from (e3.mono l3).trans (e5.mono (by have := e3.size; omega)))
  clear c0 B3 B5 e3 e5 l3 l5 z3 z5
  have e1 : (fa.toList != fa.toList) = false := by simp
  have e2 : (fa.toList == fa.toList) = true := by simp
  have hS0 : (fun w' => w'.cell? ⟨b5, 1, none⟩ = some (.string fa) ∧ w'.cell? ⟨b5, 2, none⟩ = some (.string fa)) w5.drew := ⟨HX5.out.drew.cell (i := 1) rfl, HX5.out.drew.cell (i := 2) rfl⟩
  refine wp_region_held_drew (S := fun w' => w'.cell? ⟨b5, 1, none⟩ = some (.string fa) ∧ w'.cell? ⟨b5, 2, none⟩ = some (.string fa)) (by kernel_rfl) (hS0) (fun hHeld => ?_)
  clear hS0
  refine wpAnyH_take (i := 0) (v := ?_) rfl (by kernel_rfl) (by kernel_rfl) (by kernel_rfl) (fun _ _ _ h => h) (Or.inl ⟨by rfl, ?_⟩) (by assumption) ?_
  rotate_left
  · intro w hSw; (try dsimp only at hSw); go_simp; first | done | with_reducible rfl
  (try simp only [Act.put, Array.getInternal_eq_getElem, List.getElem_toArray, List.getElem_cons_succ, List.getElem_cons_zero, List.setIfInBounds_toArray, List.set_cons_zero, List.set_cons_succ])
  refine wpAnyH_take (i := 1) (v := ?_) rfl (by kernel_rfl) (by kernel_rfl) (by kernel_rfl) (fun _ _ _ h => h) (Or.inl ⟨by rfl, ?_⟩) (by assumption) ?_
  rotate_left
  · intro w hSw; (try dsimp only at hSw); go_simp; first | done | with_reducible rfl
  (try simp only [Act.put, Array.getInternal_eq_getElem, List.getElem_toArray, List.getElem_cons_succ, List.getElem_cons_zero, List.setIfInBounds_toArray, List.set_cons_zero, List.set_cons_succ])
  refine wpAnyH_take (i := 2) (v := ?_) rfl (by kernel_rfl) (by kernel_rfl) (by kernel_rfl) (fun _ _ _ h => h) (Or.inl ⟨by rfl, ?_⟩) (by assumption) ?_
  rotate_left
  · intro w hSw; (try dsimp only at hSw); go_simp; first | done | with_reducible rfl
  (try simp only [Act.put, Array.getInternal_eq_getElem, List.getElem_toArray, List.getElem_cons_succ, List.getElem_cons_zero, List.setIfInBounds_toArray, List.set_cons_zero, List.set_cons_succ])
  refine wpAnyH_take (i := 3) (v := ?_) rfl (by kernel_rfl) (by kernel_rfl) (by kernel_rfl) (fun _ _ _ h => h) (Or.inl ⟨by rfl, ?_⟩) (by assumption) ?_
  rotate_left
  · intro w hSw; (try dsimp only at hSw); go_simp; first | done | with_reducible rfl
  (try simp only [Act.put, Array.getInternal_eq_getElem, List.getElem_toArray, List.getElem_cons_succ, List.getElem_cons_zero, List.setIfInBounds_toArray, List.set_cons_zero, List.set_cons_succ])
  refine wpAnyH_take (i := 4) (v := ?_) rfl (by kernel_rfl) (by kernel_rfl) (by kernel_rfl) (fun _ _ _ h => h) (Or.inl ⟨by rfl, ?_⟩) (by assumption) ?_
  rotate_left
  · intro w hSw; (try dsimp only at hSw); go_simp; first | done | with_reducible rfl
  (try simp only [Act.put, Array.getInternal_eq_getElem, List.getElem_toArray, List.getElem_cons_succ, List.getElem_cons_zero, List.setIfInBounds_toArray, List.set_cons_zero, List.set_cons_succ])
  refine wpAnyH_take (i := 5) (v := ?_) rfl (by kernel_rfl) (by kernel_rfl) (by kernel_rfl) (fun _ _ _ h => h) (Or.inl ⟨by rfl, ?_⟩) (by assumption) ?_
  rotate_left
  · intro w hSw; (try dsimp only at hSw); go_simp; first | done | with_reducible rfl
  (try simp only [Act.put, Array.getInternal_eq_getElem, List.getElem_toArray, List.getElem_cons_succ, List.getElem_cons_zero, List.setIfInBounds_toArray, List.set_cons_zero, List.set_cons_succ])
  refine wpAnyH_take (i := 6) (v := undef) rfl (by kernel_rfl) (by kernel_rfl) (by kernel_rfl) (fun _ _ _ h => h) (Or.inr ⟨by rfl, rfl⟩) (by assumption) ?_
  (try simp only [Act.put, Array.getInternal_eq_getElem, List.getElem_toArray, List.getElem_cons_succ, List.getElem_cons_zero, List.setIfInBounds_toArray, List.set_cons_zero, List.set_cons_succ])
  refine wpAnyH_take (i := 7) (v := undef) rfl (by kernel_rfl) (by kernel_rfl) (by kernel_rfl) (fun _ _ _ h => h) (Or.inr ⟨by rfl, rfl⟩) (by assumption) ?_
  (try simp only [Act.put, Array.getInternal_eq_getElem, List.getElem_toArray, List.getElem_cons_succ, List.getElem_cons_zero, List.setIfInBounds_toArray, List.set_cons_zero, List.set_cons_succ])
  refine wpAnyH_take (i := 8) (v := undef) rfl (by kernel_rfl) (by kernel_rfl) (by kernel_rfl) (fun _ _ _ h => h) (Or.inr ⟨by rfl, rfl⟩) (by assumption) ?_
  (try simp only [Act.put, Array.getInternal_eq_getElem, List.getElem_toArray, List.getElem_cons_succ, List.getElem_cons_zero, List.setIfInBounds_toArray, List.set_cons_zero, List.set_cons_succ])
  refine wpAnyH_take (i := 9) (v := undef) rfl (by kernel_rfl) (by kernel_rfl) (by kernel_rfl) (fun _ _ _ h => h) (Or.inr ⟨by rfl, rfl⟩) (by assumption) ?_
  (try simp only [Act.put, Array.getInternal_eq_getElem, List.getElem_toArray, List.getElem_cons_succ, List.getElem_cons_zero, List.setIfInBounds_toArray, List.set_cons_zero, List.set_cons_succ])
  refine wpAnyH_take (i := 10) (v := undef) rfl (by kernel_rfl) (by kernel_rfl) (by kernel_rfl) (fun _ _ _ h => h) (Or.inr ⟨by rfl, rfl⟩) (by assumption) ?_
  (try simp only [Act.put, Array.getInternal_eq_getElem, List.getElem_toArray, List.getElem_cons_succ, List.getElem_cons_zero, List.setIfInBounds_toArray, List.set_cons_zero, List.set_cons_succ])
  refine wpAnyH_take (i := 11) (v := undef) rfl (by kernel_rfl) (by kernel_rfl) (by kernel_rfl) (fun _ _ _ h => h) (Or.inr ⟨by rfl, rfl⟩) (by assumption) ?_
  (try simp only [Act.put, Array.getInternal_eq_getElem, List.getElem_toArray, List.getElem_cons_succ, List.getElem_cons_zero, List.setIfInBounds_toArray, List.set_cons_zero, List.set_cons_succ])
  refine wpAnyH_take (i := 12) (v := undef) rfl (by kernel_rfl) (by kernel_rfl) (by kernel_rfl) (fun _ _ _ h => h) (Or.inr ⟨by rfl, rfl⟩) (by assumption) ?_
  (try simp only [Act.put, Array.getInternal_eq_getElem, List.getElem_toArray, List.getElem_cons_succ, List.getElem_cons_zero, List.setIfInBounds_toArray, List.set_cons_zero, List.set_cons_succ])
  refine wpAnyH_take (i := 13) (v := undef) rfl (by kernel_rfl) (by kernel_rfl) (by kernel_rfl) (fun _ _ _ h => h) (Or.inr ⟨by rfl, rfl⟩) (by assumption) ?_
  (try simp only [Act.put, Array.getInternal_eq_getElem, List.getElem_toArray, List.getElem_cons_succ, List.getElem_cons_zero, List.setIfInBounds_toArray, List.set_cons_zero, List.set_cons_succ])
  refine wpAnyH_take (i := 14) (v := undef) rfl (by kernel_rfl) (by kernel_rfl) (by kernel_rfl) (fun _ _ _ h => h) (Or.inr ⟨by rfl, rfl⟩) (by assumption) ?_
  (try simp only [Act.put, Array.getInternal_eq_getElem, List.getElem_toArray, List.getElem_cons_succ, List.getElem_cons_zero, List.setIfInBounds_toArray, List.set_cons_zero, List.set_cons_succ])
  refine wpAnyH_take (i := 15) (v := ?_) rfl (by kernel_rfl) (by kernel_rfl) (by kernel_rfl) (fun _ _ _ h => h) (Or.inl ⟨by rfl, ?_⟩) (by assumption) ?_
  rotate_left
  · intro w hSw; (try dsimp only at hSw); go_simp; first | done | with_reducible rfl
  (try simp only [Act.put, Array.getInternal_eq_getElem, List.getElem_toArray, List.getElem_cons_succ, List.getElem_cons_zero, List.setIfInBounds_toArray, List.set_cons_zero, List.set_cons_succ])
  refine wpAnyH_take (i := 16) (v := ?_) rfl (by kernel_rfl) (by kernel_rfl) (by kernel_rfl) (fun _ _ _ h => h) (Or.inl ⟨by rfl, ?_⟩) (by assumption) ?_
  rotate_left
  · intro w hSw; (try dsimp only at hSw); go_simp; first | done | with_reducible rfl
  (try simp only [Act.put, Array.getInternal_eq_getElem, List.getElem_toArray, List.getElem_cons_succ, List.getElem_cons_zero, List.setIfInBounds_toArray, List.set_cons_zero, List.set_cons_succ])
  refine wpAnyH_done (by kernel_rfl) ?_ _
  go_wp2_with fail
  go_ret
  exact ⟨rfl, HB5.out.drew⟩

set_option maxRecDepth 100000 in
set_option maxHeartbeats 2000000 in
theorem right32_sums (root : ByteArray) (first : Int) (v vc vh : Value) (below : Int) (epoch : Int) (fa fb fm ft : ByteArray) (w : World) (hv1 : v.oneCell' = true) (hc1 : vc.oneCell' = true) (hh1 : vh.oneCell' = true) (hne : fa ≠ fb) (ha : fa.size ≤ 16777216) (hb : fb.size ≤ 16777216) :
    Calls Tryz.prog 22 #[.string root, .int .i64 first, .agg #[v, vc, vh], .int .i64 below, (⟨1, fa, fb, epoch, fm, ft⟩ : Fnd).v] w fun e w' => e = .returned (.bool (decide (sha fa.data.toList = sha fb.data.toList))) ∧ Below w.heap.size w w' := by
  obtain ⟨q, hq⟩ : ∃ q, decide (sha fa.data.toList = sha fb.data.toList) = q := ⟨_, rfl⟩
  rw [hq]
  have HQ := Lib.hid hq
  clear hq
  go_enter Tryz.func22, Tryz.ntmps22
  go_wp2_with (first
    | ((with_reducible refine wpList_box_new 56 (.tmp 2) ([v, vc, vh]) (some 7) ?hgd ?ho ?hd ?hx ?_); (case hgd | ho | hd | hx => rfl); (intro b3 w3 l3 B3 e3 z3))
    | ((with_reducible refine wpList_box_new 58 (.tmp 4) ((⟨1, fa, fb, epoch, fm, ft⟩ : Fnd).cells) (some 9) ?hgd ?ho ?hd ?hx ?_); (case hgd | ho | hd | hx => rfl); (intro b5 w5 l5 B5 e5 z5); have c0 := B5.cell (i := 0) rfl)
    | fail)
  have HX5 := Lib.hid B5
  have HB5 := Lib.hid (show Below w.heap.size w w5 from (e3.mono l3).trans (e5.mono (by have := e3.size; omega)))
  clear c0 B3 B5 e3 e5 l3 l5 z3 z5
  have e1 : (fa.toList == fb.toList) = false := by rw [bytesEqB32]; exact decide_eq_false hne
  have hS0 : (fun w' => w'.cell? ⟨b5, 1, none⟩ = some (.string fa) ∧ w'.cell? ⟨b5, 2, none⟩ = some (.string fb)) w5.drew := ⟨HX5.out.drew.cell (i := 1) rfl, HX5.out.drew.cell (i := 2) rfl⟩
  refine wp_region_held_drew (S := fun w' => w'.cell? ⟨b5, 1, none⟩ = some (.string fa) ∧ w'.cell? ⟨b5, 2, none⟩ = some (.string fb)) (by kernel_rfl) (hS0) (fun hHeld => ?_)
  clear hS0
  have HX0 := Lib.hid HX5.out.drew
  have HB0 := Lib.hid HB5.out.drew
  generalize w5.drew = w0 at HX0 HB0 hHeld ⊢
  refine wpAnyH_take (i := 0) (v := ?_) rfl (by kernel_rfl) (by kernel_rfl) (by kernel_rfl) (fun _ _ _ h => h) (Or.inl ⟨by rfl, ?_⟩) (by assumption) ?_
  rotate_left
  · intro w hSw; (try dsimp only at hSw); go_simp; first | done | with_reducible rfl
  (try simp only [Act.put, Array.getInternal_eq_getElem, List.getElem_toArray, List.getElem_cons_succ, List.getElem_cons_zero, List.setIfInBounds_toArray, List.set_cons_zero, List.set_cons_succ])
  refine wpAnyH_take (i := 1) (v := ?_) rfl (by kernel_rfl) (by kernel_rfl) (by kernel_rfl) (fun _ _ _ h => h) (Or.inl ⟨by rfl, ?_⟩) (by assumption) ?_
  rotate_left
  · intro w hSw; (try dsimp only at hSw); go_simp; first | done | with_reducible rfl
  (try simp only [Act.put, Array.getInternal_eq_getElem, List.getElem_toArray, List.getElem_cons_succ, List.getElem_cons_zero, List.setIfInBounds_toArray, List.set_cons_zero, List.set_cons_succ])
  refine wpAnyH_take (i := 2) (v := ?_) rfl (by kernel_rfl) (by kernel_rfl) (by kernel_rfl) (fun _ _ _ h => h) (Or.inl ⟨by rfl, ?_⟩) (by assumption) ?_
  rotate_left
  · intro w hSw; (try dsimp only at hSw); go_simp; first | done | with_reducible rfl
  (try simp only [Act.put, Array.getInternal_eq_getElem, List.getElem_toArray, List.getElem_cons_succ, List.getElem_cons_zero, List.setIfInBounds_toArray, List.set_cons_zero, List.set_cons_succ])
  refine wpAnyH_take (i := 3) (v := ?_) rfl (by kernel_rfl) (by kernel_rfl) (by kernel_rfl) (fun _ _ _ h => h) (Or.inl ⟨by rfl, ?_⟩) (by assumption) ?_
  rotate_left
  · intro w hSw; (try dsimp only at hSw); go_simp; first | done | with_reducible rfl
  (try simp only [Act.put, Array.getInternal_eq_getElem, List.getElem_toArray, List.getElem_cons_succ, List.getElem_cons_zero, List.setIfInBounds_toArray, List.set_cons_zero, List.set_cons_succ])
  refine wpAnyH_take (i := 4) (v := ?_) rfl (by kernel_rfl) (by kernel_rfl) (by kernel_rfl) (fun _ _ _ h => h) (Or.inl ⟨by rfl, ?_⟩) (by assumption) ?_
  rotate_left
  · intro w hSw; (try dsimp only at hSw); go_simp; first | done | with_reducible rfl
  (try simp only [Act.put, Array.getInternal_eq_getElem, List.getElem_toArray, List.getElem_cons_succ, List.getElem_cons_zero, List.setIfInBounds_toArray, List.set_cons_zero, List.set_cons_succ])
  refine wpAnyH_take (i := 5) (v := ?_) rfl (by kernel_rfl) (by kernel_rfl) (by kernel_rfl) (fun _ _ _ h => h) (Or.inl ⟨by rfl, ?_⟩) (by assumption) ?_
  rotate_left
  · intro w hSw; (try dsimp only at hSw); go_simp; first | done | with_reducible rfl
  (try simp only [Act.put, Array.getInternal_eq_getElem, List.getElem_toArray, List.getElem_cons_succ, List.getElem_cons_zero, List.setIfInBounds_toArray, List.set_cons_zero, List.set_cons_succ])
  refine wpAnyH_take (i := 6) (v := ?_) rfl (by kernel_rfl) (by kernel_rfl) (by kernel_rfl) (fun _ _ _ h => h) (Or.inl ⟨by rfl, ?_⟩) (by assumption) ?_
  rotate_left
  · intro w hSw; (try dsimp only at hSw); go_simp; first | done | with_reducible rfl
  (try simp only [Act.put, Array.getInternal_eq_getElem, List.getElem_toArray, List.getElem_cons_succ, List.getElem_cons_zero, List.setIfInBounds_toArray, List.set_cons_zero, List.set_cons_succ])
  refine wpAnyH_take (i := 7) (v := ?_) rfl (by kernel_rfl) (by kernel_rfl) (by kernel_rfl) (fun _ _ _ h => h) (Or.inl ⟨by rfl, ?_⟩) (by assumption) ?_
  rotate_left
  · intro w hSw; (try dsimp only at hSw); go_simp; first | done | with_reducible rfl
  (try simp only [Act.put, Array.getInternal_eq_getElem, List.getElem_toArray, List.getElem_cons_succ, List.getElem_cons_zero, List.setIfInBounds_toArray, List.set_cons_zero, List.set_cons_succ])
  refine wpAnyH_take (i := 10) (v := ?_) rfl (by kernel_rfl) (by kernel_rfl) (by kernel_rfl) (fun _ _ _ h => h) (Or.inl ⟨by rfl, ?_⟩) (by assumption) ?_
  rotate_left
  · intro w hSw; (try dsimp only at hSw); go_simp; first | done | with_reducible rfl
  (try simp only [Act.put, Array.getInternal_eq_getElem, List.getElem_toArray, List.getElem_cons_succ, List.getElem_cons_zero, List.setIfInBounds_toArray, List.set_cons_zero, List.set_cons_succ])
  refine wpAnyH_take (i := 11) (v := ?_) rfl (by kernel_rfl) (by kernel_rfl) (by kernel_rfl) (fun _ _ _ h => h) (Or.inl ⟨by rfl, ?_⟩) (by assumption) ?_
  rotate_left
  · intro w hSw; (try dsimp only at hSw); go_simp; first | done | with_reducible rfl
  (try simp only [Act.put, Array.getInternal_eq_getElem, List.getElem_toArray, List.getElem_cons_succ, List.getElem_cons_zero, List.setIfInBounds_toArray, List.set_cons_zero, List.set_cons_succ])
  refine wpAnyH_ready (rs := [8, 12]) (by kernel_rfl) (by simp) ?_
  refine AllReadyH.cons rfl (fun K hK => ?_) (AllReadyH.cons rfl (fun K hK => ?_) AllReadyH.nil)
  · go_simp
    obtain ⟨w1, hw1⟩ : ∃ w1, w1 = w0.alloc (Obj.cells #[Value.string fa] 9) := ⟨_, rfl⟩
    rw [← hw1]
    have hb1 : Below w0.heap.size w0 w1 := by rw [hw1]; exact (Below.refl _ _).alloc (Nat.le_refl _) _
    have HA1 := Lib.hid (show Blk w1 w0.heap.size [.string fa] 9 by rw [hw1]; exact Blk.new w0 [.string fa] _)
    clear hw1
    have HX1 := Lib.hid (HX0.out.below hb1 HX0.out.lt)
    have HB1 := Lib.hid (HB0.out.trans (hb1.mono HB0.out.size))
    clear hb1
    (try go_wp2_with fail)
    refine hK.out _ _ (⟨HX1.out.cell (i := 1) rfl, HX1.out.cell (i := 2) rfl⟩) (fun hHeld2 => ?_)
    clear hK K hHeld
    have hHeld := hHeld2
    clear hHeld2
    (try simp only [Act.put, Array.getInternal_eq_getElem, List.getElem_toArray, List.getElem_cons_succ, List.getElem_cons_zero, List.setIfInBounds_toArray, List.set_cons_zero, List.set_cons_succ])
    refine wpAnyH_ready (rs := [9, 12]) (by kernel_rfl) (by simp) ?_
    refine AllReadyH.cons rfl (fun K hK => ?_) (AllReadyH.cons rfl (fun K hK => ?_) AllReadyH.nil)
    · go_simp
      refine (sum_row _ 0 1 [fa] _ HA1.out.lt (fun j z hz => by
        rcases j with _ | j
        · simp at hz; subst hz; exact HA1.out.cell (i := 0) rfl
        · simp at hz) (by rw [catL_one]; have : fa.data.toList.length = fa.size := rfl; omega) (by simp)).mono ?_
      rintro e w2 ⟨s, rfl, ts, hb2⟩
      rw [catL_one] at ts
      have Ts := Lib.hid ts
      clear ts
      have HX2 := Lib.hid (HX1.out.below hb2 HX1.out.lt)
      have HB2 := Lib.hid (HB1.out.trans (hb2.mono HB1.out.size))
      have HA2 := Lib.hid (HA1.out.below hb2 HA1.out.lt)
      clear hb2
      (try go_wp2_with fail)
      refine hK.out _ _ (⟨HX2.out.cell (i := 1) rfl, HX2.out.cell (i := 2) rfl⟩) (fun hHeld2 => ?_)
      clear hK K hHeld
      have hHeld := hHeld2
      clear hHeld2
      (try simp only [Act.put, Array.getInternal_eq_getElem, List.getElem_toArray, List.getElem_cons_succ, List.getElem_cons_zero, List.setIfInBounds_toArray, List.set_cons_zero, List.set_cons_succ])
      refine wpAnyH_ready (rs := [12]) (by kernel_rfl) (by simp) ?_
      refine AllReadyH.cons rfl (fun K hK => ?_) AllReadyH.nil
      go_simp
      obtain ⟨w3, hw3⟩ : ∃ w3, w3 = w2.alloc (Obj.cells #[Value.string fb] 9) := ⟨_, rfl⟩
      rw [← hw3]
      have hb3 : Below w2.heap.size w2 w3 := by rw [hw3]; exact (Below.refl _ _).alloc (Nat.le_refl _) _
      have HZ3 := Lib.hid (show Blk w3 w2.heap.size [.string fb] 9 by rw [hw3]; exact Blk.new w2 [.string fb] _)
      clear hw3
      have HX3 := Lib.hid (HX2.out.below hb3 HX2.out.lt)
      have HB3 := Lib.hid (HB2.out.trans (hb3.mono HB2.out.size))
      have HA3 := Lib.hid (HA2.out.below hb3 HA2.out.lt)
      clear hb3
      (try go_wp2_with fail)
      refine hK.out _ _ (⟨HX3.out.cell (i := 1) rfl, HX3.out.cell (i := 2) rfl⟩) (fun hHeld2 => ?_)
      clear hK K hHeld
      have hHeld := hHeld2
      clear hHeld2
      (try simp only [Act.put, Array.getInternal_eq_getElem, List.getElem_toArray, List.getElem_cons_succ, List.getElem_cons_zero, List.setIfInBounds_toArray, List.set_cons_zero, List.set_cons_succ])
      refine wpAnyH_ready (rs := [13]) (by kernel_rfl) (by simp) ?_
      refine AllReadyH.cons rfl (fun K hK => ?_) AllReadyH.nil
      go_simp
      refine (sum_row _ 0 1 [fb] _ HZ3.out.lt (fun j z hz => by
        rcases j with _ | j
        · simp at hz; subst hz; exact HZ3.out.cell (i := 0) rfl
        · simp at hz) (by rw [catL_one]; have : fb.data.toList.length = fb.size := rfl; omega) (by simp)).mono ?_
      rintro e w4 ⟨t, rfl, tt, hb4⟩
      rw [catL_one] at tt
      have Tt := Lib.hid tt
      clear tt
      have HX4 := Lib.hid (HX3.out.below hb4 HX3.out.lt)
      have HB4 := Lib.hid (HB3.out.trans (hb4.mono HB3.out.size))
      have HA4 := Lib.hid (HA3.out.below hb4 HA3.out.lt)
      have HZ4 := Lib.hid (HZ3.out.below hb4 HZ3.out.lt)
      clear hb4
      have q2 : (s.toList == t.toList) = q := by rw [bytesEqB32, ← HQ.out, Bool.eq_iff_iff, decide_eq_true_eq, decide_eq_true_eq, Ts.out.beq Tt.out]
      (try go_wp2_with fail)
      refine hK.out _ _ (⟨HX4.out.cell (i := 1) rfl, HX4.out.cell (i := 2) rfl⟩) (fun hHeld2 => ?_)
      clear hK K hHeld
      have hHeld := hHeld2
      clear hHeld2
      (try simp only [Act.put, Array.getInternal_eq_getElem, List.getElem_toArray, List.getElem_cons_succ, List.getElem_cons_zero, List.setIfInBounds_toArray, List.set_cons_zero, List.set_cons_succ])
      refine wpAnyH_take (i := 14) (v := ?_) rfl (by kernel_rfl) (by kernel_rfl) (by kernel_rfl) (fun _ _ _ h => h) (Or.inl ⟨by rfl, ?_⟩) (by assumption) ?_
      rotate_left
      · intro w hSw; (try dsimp only at hSw); go_simp; first | done | with_reducible rfl
      (try simp only [Act.put, Array.getInternal_eq_getElem, List.getElem_toArray, List.getElem_cons_succ, List.getElem_cons_zero, List.setIfInBounds_toArray, List.set_cons_zero, List.set_cons_succ])
      refine wpAnyH_take (i := 15) (v := ?_) rfl (by kernel_rfl) (by kernel_rfl) (by kernel_rfl) (fun _ _ _ h => h) (Or.inl ⟨by rfl, ?_⟩) (by assumption) ?_
      rotate_left
      · intro w hSw; (try dsimp only at hSw); go_simp; first | done | with_reducible rfl
      (try simp only [Act.put, Array.getInternal_eq_getElem, List.getElem_toArray, List.getElem_cons_succ, List.getElem_cons_zero, List.setIfInBounds_toArray, List.set_cons_zero, List.set_cons_succ])
      refine wpAnyH_take (i := 16) (v := ?_) rfl (by kernel_rfl) (by kernel_rfl) (by kernel_rfl) (fun _ _ _ h => h) (Or.inl ⟨by rfl, ?_⟩) (by assumption) ?_
      rotate_left
      · intro w hSw; (try dsimp only at hSw); go_simp; first | done | with_reducible rfl
      (try simp only [Act.put, Array.getInternal_eq_getElem, List.getElem_toArray, List.getElem_cons_succ, List.getElem_cons_zero, List.setIfInBounds_toArray, List.set_cons_zero, List.set_cons_succ])
      refine wpAnyH_done (by kernel_rfl) ?_ _
      go_wp2_with fail
      go_ret
      exact ⟨rfl, HB4.out⟩
    · go_simp
      obtain ⟨w5, hw5⟩ : ∃ w5, w5 = w1.alloc (Obj.cells #[Value.string fb] 9) := ⟨_, rfl⟩
      rw [← hw5]
      have hb5 : Below w1.heap.size w1 w5 := by rw [hw5]; exact (Below.refl _ _).alloc (Nat.le_refl _) _
      have HZ5 := Lib.hid (show Blk w5 w1.heap.size [.string fb] 9 by rw [hw5]; exact Blk.new w1 [.string fb] _)
      clear hw5
      have HX5 := Lib.hid (HX1.out.below hb5 HX1.out.lt)
      have HB5 := Lib.hid (HB1.out.trans (hb5.mono HB1.out.size))
      have HA5 := Lib.hid (HA1.out.below hb5 HA1.out.lt)
      clear hb5
      (try go_wp2_with fail)
      refine hK.out _ _ (⟨HX5.out.cell (i := 1) rfl, HX5.out.cell (i := 2) rfl⟩) (fun hHeld2 => ?_)
      clear hK K hHeld
      have hHeld := hHeld2
      clear hHeld2
      (try simp only [Act.put, Array.getInternal_eq_getElem, List.getElem_toArray, List.getElem_cons_succ, List.getElem_cons_zero, List.setIfInBounds_toArray, List.set_cons_zero, List.set_cons_succ])
      refine wpAnyH_ready (rs := [9]) (by kernel_rfl) (by simp) ?_
      refine AllReadyH.cons rfl (fun K hK => ?_) AllReadyH.nil
      go_simp
      refine (sum_row _ 0 1 [fa] _ HA5.out.lt (fun j z hz => by
        rcases j with _ | j
        · simp at hz; subst hz; exact HA5.out.cell (i := 0) rfl
        · simp at hz) (by rw [catL_one]; have : fa.data.toList.length = fa.size := rfl; omega) (by simp)).mono ?_
      rintro e w6 ⟨s, rfl, ts, hb6⟩
      rw [catL_one] at ts
      have Ts := Lib.hid ts
      clear ts
      have HX6 := Lib.hid (HX5.out.below hb6 HX5.out.lt)
      have HB6 := Lib.hid (HB5.out.trans (hb6.mono HB5.out.size))
      have HA6 := Lib.hid (HA5.out.below hb6 HA5.out.lt)
      have HZ6 := Lib.hid (HZ5.out.below hb6 HZ5.out.lt)
      clear hb6
      (try go_wp2_with fail)
      refine hK.out _ _ (⟨HX6.out.cell (i := 1) rfl, HX6.out.cell (i := 2) rfl⟩) (fun hHeld2 => ?_)
      clear hK K hHeld
      have hHeld := hHeld2
      clear hHeld2
      (try simp only [Act.put, Array.getInternal_eq_getElem, List.getElem_toArray, List.getElem_cons_succ, List.getElem_cons_zero, List.setIfInBounds_toArray, List.set_cons_zero, List.set_cons_succ])
      refine wpAnyH_ready (rs := [13]) (by kernel_rfl) (by simp) ?_
      refine AllReadyH.cons rfl (fun K hK => ?_) AllReadyH.nil
      go_simp
      refine (sum_row _ 0 1 [fb] _ HZ6.out.lt (fun j z hz => by
        rcases j with _ | j
        · simp at hz; subst hz; exact HZ6.out.cell (i := 0) rfl
        · simp at hz) (by rw [catL_one]; have : fb.data.toList.length = fb.size := rfl; omega) (by simp)).mono ?_
      rintro e w7 ⟨t, rfl, tt, hb7⟩
      rw [catL_one] at tt
      have Tt := Lib.hid tt
      clear tt
      have HX7 := Lib.hid (HX6.out.below hb7 HX6.out.lt)
      have HB7 := Lib.hid (HB6.out.trans (hb7.mono HB6.out.size))
      have HA7 := Lib.hid (HA6.out.below hb7 HA6.out.lt)
      have HZ7 := Lib.hid (HZ6.out.below hb7 HZ6.out.lt)
      clear hb7
      have q2 : (s.toList == t.toList) = q := by rw [bytesEqB32, ← HQ.out, Bool.eq_iff_iff, decide_eq_true_eq, decide_eq_true_eq, Ts.out.beq Tt.out]
      (try go_wp2_with fail)
      refine hK.out _ _ (⟨HX7.out.cell (i := 1) rfl, HX7.out.cell (i := 2) rfl⟩) (fun hHeld2 => ?_)
      clear hK K hHeld
      have hHeld := hHeld2
      clear hHeld2
      (try simp only [Act.put, Array.getInternal_eq_getElem, List.getElem_toArray, List.getElem_cons_succ, List.getElem_cons_zero, List.setIfInBounds_toArray, List.set_cons_zero, List.set_cons_succ])
      refine wpAnyH_take (i := 14) (v := ?_) rfl (by kernel_rfl) (by kernel_rfl) (by kernel_rfl) (fun _ _ _ h => h) (Or.inl ⟨by rfl, ?_⟩) (by assumption) ?_
      rotate_left
      · intro w hSw; (try dsimp only at hSw); go_simp; first | done | with_reducible rfl
      (try simp only [Act.put, Array.getInternal_eq_getElem, List.getElem_toArray, List.getElem_cons_succ, List.getElem_cons_zero, List.setIfInBounds_toArray, List.set_cons_zero, List.set_cons_succ])
      refine wpAnyH_take (i := 15) (v := ?_) rfl (by kernel_rfl) (by kernel_rfl) (by kernel_rfl) (fun _ _ _ h => h) (Or.inl ⟨by rfl, ?_⟩) (by assumption) ?_
      rotate_left
      · intro w hSw; (try dsimp only at hSw); go_simp; first | done | with_reducible rfl
      (try simp only [Act.put, Array.getInternal_eq_getElem, List.getElem_toArray, List.getElem_cons_succ, List.getElem_cons_zero, List.setIfInBounds_toArray, List.set_cons_zero, List.set_cons_succ])
      refine wpAnyH_take (i := 16) (v := ?_) rfl (by kernel_rfl) (by kernel_rfl) (by kernel_rfl) (fun _ _ _ h => h) (Or.inl ⟨by rfl, ?_⟩) (by assumption) ?_
      rotate_left
      · intro w hSw; (try dsimp only at hSw); go_simp; first | done | with_reducible rfl
      (try simp only [Act.put, Array.getInternal_eq_getElem, List.getElem_toArray, List.getElem_cons_succ, List.getElem_cons_zero, List.setIfInBounds_toArray, List.set_cons_zero, List.set_cons_succ])
      refine wpAnyH_done (by kernel_rfl) ?_ _
      go_wp2_with fail
      go_ret
      exact ⟨rfl, HB7.out⟩
  · go_simp
    obtain ⟨w8, hw8⟩ : ∃ w8, w8 = w0.alloc (Obj.cells #[Value.string fb] 9) := ⟨_, rfl⟩
    rw [← hw8]
    have hb8 : Below w0.heap.size w0 w8 := by rw [hw8]; exact (Below.refl _ _).alloc (Nat.le_refl _) _
    have HZ8 := Lib.hid (show Blk w8 w0.heap.size [.string fb] 9 by rw [hw8]; exact Blk.new w0 [.string fb] _)
    clear hw8
    have HX8 := Lib.hid (HX0.out.below hb8 HX0.out.lt)
    have HB8 := Lib.hid (HB0.out.trans (hb8.mono HB0.out.size))
    clear hb8
    (try go_wp2_with fail)
    refine hK.out _ _ (⟨HX8.out.cell (i := 1) rfl, HX8.out.cell (i := 2) rfl⟩) (fun hHeld2 => ?_)
    clear hK K hHeld
    have hHeld := hHeld2
    clear hHeld2
    (try simp only [Act.put, Array.getInternal_eq_getElem, List.getElem_toArray, List.getElem_cons_succ, List.getElem_cons_zero, List.setIfInBounds_toArray, List.set_cons_zero, List.set_cons_succ])
    refine wpAnyH_ready (rs := [8]) (by kernel_rfl) (by simp) ?_
    refine AllReadyH.cons rfl (fun K hK => ?_) AllReadyH.nil
    go_simp
    obtain ⟨w9, hw9⟩ : ∃ w9, w9 = w8.alloc (Obj.cells #[Value.string fa] 9) := ⟨_, rfl⟩
    rw [← hw9]
    have hb9 : Below w8.heap.size w8 w9 := by rw [hw9]; exact (Below.refl _ _).alloc (Nat.le_refl _) _
    have HA9 := Lib.hid (show Blk w9 w8.heap.size [.string fa] 9 by rw [hw9]; exact Blk.new w8 [.string fa] _)
    clear hw9
    have HX9 := Lib.hid (HX8.out.below hb9 HX8.out.lt)
    have HB9 := Lib.hid (HB8.out.trans (hb9.mono HB8.out.size))
    have HZ9 := Lib.hid (HZ8.out.below hb9 HZ8.out.lt)
    clear hb9
    (try go_wp2_with fail)
    refine hK.out _ _ (⟨HX9.out.cell (i := 1) rfl, HX9.out.cell (i := 2) rfl⟩) (fun hHeld2 => ?_)
    clear hK K hHeld
    have hHeld := hHeld2
    clear hHeld2
    (try simp only [Act.put, Array.getInternal_eq_getElem, List.getElem_toArray, List.getElem_cons_succ, List.getElem_cons_zero, List.setIfInBounds_toArray, List.set_cons_zero, List.set_cons_succ])
    refine wpAnyH_ready (rs := [9]) (by kernel_rfl) (by simp) ?_
    refine AllReadyH.cons rfl (fun K hK => ?_) AllReadyH.nil
    go_simp
    refine (sum_row _ 0 1 [fa] _ HA9.out.lt (fun j z hz => by
      rcases j with _ | j
      · simp at hz; subst hz; exact HA9.out.cell (i := 0) rfl
      · simp at hz) (by rw [catL_one]; have : fa.data.toList.length = fa.size := rfl; omega) (by simp)).mono ?_
    rintro e w10 ⟨s, rfl, ts, hb10⟩
    rw [catL_one] at ts
    have Ts := Lib.hid ts
    clear ts
    have HX10 := Lib.hid (HX9.out.below hb10 HX9.out.lt)
    have HB10 := Lib.hid (HB9.out.trans (hb10.mono HB9.out.size))
    have HA10 := Lib.hid (HA9.out.below hb10 HA9.out.lt)
    have HZ10 := Lib.hid (HZ9.out.below hb10 HZ9.out.lt)
    clear hb10
    (try go_wp2_with fail)
    refine hK.out _ _ (⟨HX10.out.cell (i := 1) rfl, HX10.out.cell (i := 2) rfl⟩) (fun hHeld2 => ?_)
    clear hK K hHeld
    have hHeld := hHeld2
    clear hHeld2
    (try simp only [Act.put, Array.getInternal_eq_getElem, List.getElem_toArray, List.getElem_cons_succ, List.getElem_cons_zero, List.setIfInBounds_toArray, List.set_cons_zero, List.set_cons_succ])
    refine wpAnyH_ready (rs := [13]) (by kernel_rfl) (by simp) ?_
    refine AllReadyH.cons rfl (fun K hK => ?_) AllReadyH.nil
    go_simp
    refine (sum_row _ 0 1 [fb] _ HZ10.out.lt (fun j z hz => by
      rcases j with _ | j
      · simp at hz; subst hz; exact HZ10.out.cell (i := 0) rfl
      · simp at hz) (by rw [catL_one]; have : fb.data.toList.length = fb.size := rfl; omega) (by simp)).mono ?_
    rintro e w11 ⟨t, rfl, tt, hb11⟩
    rw [catL_one] at tt
    have Tt := Lib.hid tt
    clear tt
    have HX11 := Lib.hid (HX10.out.below hb11 HX10.out.lt)
    have HB11 := Lib.hid (HB10.out.trans (hb11.mono HB10.out.size))
    have HA11 := Lib.hid (HA10.out.below hb11 HA10.out.lt)
    have HZ11 := Lib.hid (HZ10.out.below hb11 HZ10.out.lt)
    clear hb11
    have q2 : (s.toList == t.toList) = q := by rw [bytesEqB32, ← HQ.out, Bool.eq_iff_iff, decide_eq_true_eq, decide_eq_true_eq, Ts.out.beq Tt.out]
    (try go_wp2_with fail)
    refine hK.out _ _ (⟨HX11.out.cell (i := 1) rfl, HX11.out.cell (i := 2) rfl⟩) (fun hHeld2 => ?_)
    clear hK K hHeld
    have hHeld := hHeld2
    clear hHeld2
    (try simp only [Act.put, Array.getInternal_eq_getElem, List.getElem_toArray, List.getElem_cons_succ, List.getElem_cons_zero, List.setIfInBounds_toArray, List.set_cons_zero, List.set_cons_succ])
    refine wpAnyH_take (i := 14) (v := ?_) rfl (by kernel_rfl) (by kernel_rfl) (by kernel_rfl) (fun _ _ _ h => h) (Or.inl ⟨by rfl, ?_⟩) (by assumption) ?_
    rotate_left
    · intro w hSw; (try dsimp only at hSw); go_simp; first | done | with_reducible rfl
    (try simp only [Act.put, Array.getInternal_eq_getElem, List.getElem_toArray, List.getElem_cons_succ, List.getElem_cons_zero, List.setIfInBounds_toArray, List.set_cons_zero, List.set_cons_succ])
    refine wpAnyH_take (i := 15) (v := ?_) rfl (by kernel_rfl) (by kernel_rfl) (by kernel_rfl) (fun _ _ _ h => h) (Or.inl ⟨by rfl, ?_⟩) (by assumption) ?_
    rotate_left
    · intro w hSw; (try dsimp only at hSw); go_simp; first | done | with_reducible rfl
    (try simp only [Act.put, Array.getInternal_eq_getElem, List.getElem_toArray, List.getElem_cons_succ, List.getElem_cons_zero, List.setIfInBounds_toArray, List.set_cons_zero, List.set_cons_succ])
    refine wpAnyH_take (i := 16) (v := ?_) rfl (by kernel_rfl) (by kernel_rfl) (by kernel_rfl) (fun _ _ _ h => h) (Or.inl ⟨by rfl, ?_⟩) (by assumption) ?_
    rotate_left
    · intro w hSw; (try dsimp only at hSw); go_simp; first | done | with_reducible rfl
    (try simp only [Act.put, Array.getInternal_eq_getElem, List.getElem_toArray, List.getElem_cons_succ, List.getElem_cons_zero, List.setIfInBounds_toArray, List.set_cons_zero, List.set_cons_succ])
    refine wpAnyH_done (by kernel_rfl) ?_ _
    go_wp2_with fail
    go_ret
    exact ⟨rfl, HB11.out⟩

set_option maxRecDepth 100000 in
set_option maxHeartbeats 2000000 in
theorem right32_none (root : ByteArray) (first : Int) (v vc vh : Value) (below : Int) (kind epoch : Int) (fa fb fm ft : ByteArray) (w : World) (hv1 : v.oneCell' = true) (hc1 : vc.oneCell' = true) (hh1 : vh.oneCell' = true) (h1 : ¬ kind = 1) (h2 : ¬ kind = 2) (h3 : ¬ kind = 3) :
    Calls Tryz.prog 22 #[.string root, .int .i64 first, .agg #[v, vc, vh], .int .i64 below, (⟨kind, fa, fb, epoch, fm, ft⟩ : Fnd).v] w fun e w' => e = .returned (.bool false) ∧ Below w.heap.size w w' := by
  have g1 : (kind == 1) = false := by simpa using h1
  have g2 : (kind == 2) = false := by simpa using h2
  have g3 : (kind == 3) = false := by simpa using h3
  go_enter Tryz.func22, Tryz.ntmps22
  go_wp2_with (first
    | ((with_reducible refine wpList_box_new 56 (.tmp 2) ([v, vc, vh]) (some 7) ?hgd ?ho ?hd ?hx ?_); (case hgd | ho | hd | hx => rfl); (intro b3 w3 l3 B3 e3 z3))
    | ((with_reducible refine wpList_box_new 58 (.tmp 4) ((⟨kind, fa, fb, epoch, fm, ft⟩ : Fnd).cells) (some 9) ?hgd ?ho ?hd ?hx ?_); (case hgd | ho | hd | hx => rfl); (intro b5 w5 l5 B5 e5 z5); have c0 := B5.cell (i := 0) rfl)
    | fail)
  go_ret
  exact ⟨rfl, (e3.mono l3).trans (e5.mono (by have := e3.size; omega))⟩
end Go.Proofs.YtidekfbgjghcjaaGreat

