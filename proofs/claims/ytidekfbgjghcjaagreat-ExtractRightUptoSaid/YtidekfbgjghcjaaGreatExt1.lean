/- Walks of extract's tagged and made (chapter 32). -/
import Derived.Test.YtidekfbgjghcjaaGreatG9
import Derived.Test.YtidekfbgjghcjaaGreatG5
import Derived.Test.YtidekfbgjghcjaaGreatG3
import Derived.Test.YtidekfbgjghcjaaGreatSeal1
import Derived.Deep.RegionHeld3
import Derived.Deep.MidRow
namespace Go.Proofs.YtidekfbgjghcjaaGreat
set_option linter.unusedSimpArgs false
set_option linter.unusedVariables false
open Go Go.RowKit

structure Fnd where
  kind : Int
  a : ByteArray
  b : ByteArray
  epoch : Int
  msg : ByteArray
  tag : ByteArray
def Fnd.cells (f : Fnd) : List Value := [.int .i64 f.kind, .string f.a, .string f.b, .int .i64 f.epoch, .string f.msg, .string f.tag]
def Fnd.v (f : Fnd) : Value := .agg #[.int .i64 f.kind, .string f.a, .string f.b, .int .i64 f.epoch, .string f.msg, .string f.tag]
def Fnd.zero : Fnd := ⟨0, ⟨#[]⟩, ⟨#[]⟩, 0, ⟨#[]⟩, ⟨#[]⟩⟩
theorem sizeFnd {x : Fnd} : (Tryz.prog.info? 58).map (·.size) = some x.cells.length := by kernel_rfl
theorem zeroFnd (w : World) : Sem.run Tryz.prog (zeroValue 58) w = .ok (.agg Fnd.zero.cells.toArray) w := by kernel_rfl
theorem Fnd.cells_one (x : Fnd) : ∀ v ∈ x.cells, v.oneCell' = true := by intro v hv; simp [Fnd.cells] at hv; rcases hv with rfl | rfl | rfl | rfl | rfl | rfl <;> rfl
def tagIn (root : ByteArray) (first : Int) (f : Fnd) : Prop := 0 ≤ f.epoch ∧ f.epoch ≤ 4294967295 ∧ first ≤ f.epoch ∧ 0 ≤ first ∧ root.data.toList.length = 32 ∧ f.epoch - first ≤ 4096
instance (root : ByteArray) (first : Int) (f : Fnd) : Decidable (tagIn root first f) := by unfold tagIn; infer_instance
def taggedS (root : ByteArray) (first : Int) (f : Fnd) (lbl : List UInt8) : Bool :=
  if tagIn root first f then decide (mac (madeL (atL root.data.toList first.toNat (f.epoch - first).toNat) lbl []) f.msg.data.toList = f.tag.data.toList) else false
theorem bytesEqB32 (a b : ByteArray) : (a.toList == b.toList) = decide (a = b) := by
  rw [Bool.eq_iff_iff, decide_eq_true_eq]
  constructor
  · intro h; exact bytes_same (by simpa using h)
  · rintro rfl; simp
set_option maxRecDepth 100000 in
set_option maxHeartbeats 4000000 in
theorem tagged32_mac (root : ByteArray) (first : Int) (f : Fnd) (w : World) (hm : f.msg.size ≤ 16777216) :
    Calls Tryz.prog 69 #[.string root, .int .i64 first, f.v, .func (.func 70) #[] #[]] w fun e w' => e = .returned (.bool (taggedS root first f [109, 97, 99])) ∧ Below w.heap.size w w' := by
  obtain ⟨q, hq⟩ : ∃ q, decide (mac (madeL (atL root.data.toList first.toNat (f.epoch - first).toNat) [109, 97, 99] []) f.msg.data.toList = f.tag.data.toList) = q := ⟨_, rfl⟩
  have HQ := Lib.hid hq
  clear hq
  go_enter Tryz.func69, Tryz.ntmps69
  go_wp2_with (first
    | ((with_reducible refine wpList_box_new 58 (.tmp 2) (f.cells) (some 6) ?hgd ?ho ?hd ?hx ?_); (case hgd | ho | hd | hx => rfl); (intro b0 w0 l0 B0 e0 z0); have c3 := B0.cell (i := 3) rfl)
    | fail)
  have HX0 := Lib.hid B0
  have HB0 := Lib.hid (show Below w.heap.size w w0 from e0.mono l0)
  clear B0 e0 l0 z0 c3
  refine (at_walk root first f.epoch _).mono ?_
  rintro e w1 ⟨he, hb1⟩
  have HX1 := Lib.hid (HX0.out.below hb1 HX0.out.lt)
  have HB1 := Lib.hid (HB0.out.trans (hb1.mono HB0.out.size))
  clear hb1
  rcases he with ⟨c, key, rfl, tk⟩ | ⟨c, rfl⟩ | ⟨c, rfl⟩
  · have HC := Lib.hid (show tagIn root first f from c)
    have TK := Lib.hid tk
    clear c tk
    go_wp2_with fail
    refine (macKey_walk key _).mono ?_
    rintro e w2 ⟨he, hb2⟩
    obtain ⟨k, rfl, tm⟩ := he.yes (by rw [TK.out.size, atL_length])
    have TM := Lib.hid tm
    have HX2 := Lib.hid (HX1.out.below hb2 HX1.out.lt)
    have HB2 := Lib.hid (HB1.out.trans (hb2.mono HB1.out.size))
    clear tm hb2 he
    go_wp2_with fail
    have hS0 : (fun w' => w'.cell? ⟨b0, 4, none⟩ = some (.string f.msg) ∧ w'.cell? ⟨b0, 5, none⟩ = some (.string f.tag)) w2.drew := ⟨HX2.out.drew.cell (i := 4) rfl, HX2.out.drew.cell (i := 5) rfl⟩
    refine wp_region_held_drew (S := fun w' => w'.cell? ⟨b0, 4, none⟩ = some (.string f.msg) ∧ w'.cell? ⟨b0, 5, none⟩ = some (.string f.tag)) (by kernel_rfl) (hS0) (fun hHeld => ?_)
    clear hS0
    refine wpAnyH_take (i := 0) (v := ?_) rfl (by kernel_rfl) (by kernel_rfl) (by kernel_rfl) (fun _ _ _ h => h) (Or.inl ⟨by rfl, ?_⟩) (by assumption) ?_
    rotate_left
    · intro w hSw; (try dsimp only at hSw); go_simp; first | done | with_reducible rfl
    (try simp only [Act.put, Array.getInternal_eq_getElem, List.getElem_toArray, List.getElem_cons_succ, List.getElem_cons_zero, List.setIfInBounds_toArray, List.set_cons_zero, List.set_cons_succ])
    refine wpAnyH_take (i := 1) (v := ?_) rfl (by kernel_rfl) (by kernel_rfl) (by kernel_rfl) (fun _ _ _ h => h) (Or.inl ⟨by rfl, ?_⟩) (by assumption) ?_
    rotate_left
    · intro w hSw; (try dsimp only at hSw); go_simp; first | done | with_reducible rfl
    (try simp only [Act.put, Array.getInternal_eq_getElem, List.getElem_toArray, List.getElem_cons_succ, List.getElem_cons_zero, List.setIfInBounds_toArray, List.set_cons_zero, List.set_cons_succ])
    refine wpAnyH_take (i := 2) (v := ?_) rfl (by kernel_rfl) (by kernel_rfl) (by kernel_rfl) (fun _ _ _ h => h) (Or.inl ⟨by rfl, ?_⟩) (by assumption) ?_
    rotate_left
    · intro w hSw; (try dsimp only at hSw); go_simp; first | done | with_reducible rfl
    (try simp only [Act.put, Array.getInternal_eq_getElem, List.getElem_toArray, List.getElem_cons_succ, List.getElem_cons_zero, List.setIfInBounds_toArray, List.set_cons_zero, List.set_cons_succ])
    refine wpAnyH_take (i := 4) (v := ?_) rfl (by kernel_rfl) (by kernel_rfl) (by kernel_rfl) (fun _ _ _ h => h) (Or.inl ⟨by rfl, ?_⟩) (by assumption) ?_
    rotate_left
    · intro w hSw; (try dsimp only at hSw); go_simp; first | done | with_reducible rfl
    (try simp only [Act.put, Array.getInternal_eq_getElem, List.getElem_toArray, List.getElem_cons_succ, List.getElem_cons_zero, List.setIfInBounds_toArray, List.set_cons_zero, List.set_cons_succ])
    refine wpAnyH_take (i := 5) (v := ?_) rfl (by kernel_rfl) (by kernel_rfl) (by kernel_rfl) (fun _ _ _ h => h) (Or.inl ⟨by rfl, ?_⟩) (by assumption) ?_
    rotate_left
    · intro w hSw; (try dsimp only at hSw); go_simp; first | done | with_reducible rfl
    (try simp only [Act.put, Array.getInternal_eq_getElem, List.getElem_toArray, List.getElem_cons_succ, List.getElem_cons_zero, List.setIfInBounds_toArray, List.set_cons_zero, List.set_cons_succ])
    refine wpAnyH_ready (rs := [3]) (by kernel_rfl) (by simp) ?_
    refine AllReadyH.cons rfl (fun K hK => ?_) AllReadyH.nil
    go_simp
    refine (mac_walk k f.msg _ (by rw [TM.out.size, madeL_length]; omega) hm).mono ?_
    rintro e w3 ⟨t, rfl, tt, hb3⟩
    have HX3 := Lib.hid (HX2.out.drew.below hb3 HX2.out.drew.lt)
    have HB3 := Lib.hid (HB2.out.drew.trans (hb3.mono HB2.out.drew.size))
    have q2 : (t.toList == f.tag.toList) = q := by
      rw [bytesEqB32, ← HQ.out, Bool.eq_iff_iff, decide_eq_true_eq, decide_eq_true_eq, tt.beq (Txt.self _), show k.data.toList = _ from TM.out, show key.data.toList = _ from TK.out]
    clear tt hb3
    (try go_wp2_with fail)
    refine hK.out _ _ (⟨HX3.out.cell (i := 4) rfl, HX3.out.cell (i := 5) rfl⟩) (fun hHeld2 => ?_)
    clear hK K hHeld
    have hHeld := hHeld2
    clear hHeld2
    (try simp only [Act.put, Array.getInternal_eq_getElem, List.getElem_toArray, List.getElem_cons_succ, List.getElem_cons_zero, List.setIfInBounds_toArray, List.set_cons_zero, List.set_cons_succ])
    refine wpAnyH_take (i := 6) (v := ?_) rfl (by kernel_rfl) (by kernel_rfl) (by kernel_rfl) (fun _ _ _ h => h) (Or.inl ⟨by rfl, ?_⟩) (by assumption) ?_
    rotate_left
    · intro w hSw; (try dsimp only at hSw); go_simp; first | done | with_reducible rfl
    (try simp only [Act.put, Array.getInternal_eq_getElem, List.getElem_toArray, List.getElem_cons_succ, List.getElem_cons_zero, List.setIfInBounds_toArray, List.set_cons_zero, List.set_cons_succ])
    refine wpAnyH_take (i := 7) (v := ?_) rfl (by kernel_rfl) (by kernel_rfl) (by kernel_rfl) (fun _ _ _ h => h) (Or.inl ⟨by rfl, ?_⟩) (by assumption) ?_
    rotate_left
    · intro w hSw; (try dsimp only at hSw); go_simp; first | done | with_reducible rfl
    (try simp only [Act.put, Array.getInternal_eq_getElem, List.getElem_toArray, List.getElem_cons_succ, List.getElem_cons_zero, List.setIfInBounds_toArray, List.set_cons_zero, List.set_cons_succ])
    refine wpAnyH_done (by kernel_rfl) ?_ _
    go_wp2_with fail
    go_ret
    refine ⟨congrArg (fun q => Ending.returned (.bool q)) ?_, HB3.out⟩
    rw [taggedS, if_pos HC.out, HQ.out]
  · have HC := Lib.hid (show ¬ tagIn root first f from fun h => by obtain ⟨h1, h2, h3, h4, h5, h6⟩ := h; omega)
    clear c
    go_wp2_with fail
    go_ret
    exact ⟨by rw [taggedS, if_neg HC.out]; rfl, HB1.out⟩
  · have HC := Lib.hid (show ¬ tagIn root first f from fun h => by obtain ⟨h1, h2, h3, h4, h5, h6⟩ := h; omega)
    clear c
    go_wp2_with fail
    go_ret
    exact ⟨by rw [taggedS, if_neg HC.out]; rfl, HB1.out⟩

set_option maxRecDepth 100000 in
set_option maxHeartbeats 4000000 in
theorem tagged32_ask (root : ByteArray) (first : Int) (f : Fnd) (w : World) (hm : f.msg.size ≤ 16777216) :
    Calls Tryz.prog 69 #[.string root, .int .i64 first, f.v, .func (.func 46) #[] #[]] w fun e w' => e = .returned (.bool (taggedS root first f [97, 115, 107])) ∧ Below w.heap.size w w' := by
  obtain ⟨q, hq⟩ : ∃ q, decide (mac (madeL (atL root.data.toList first.toNat (f.epoch - first).toNat) [97, 115, 107] []) f.msg.data.toList = f.tag.data.toList) = q := ⟨_, rfl⟩
  have HQ := Lib.hid hq
  clear hq
  go_enter Tryz.func69, Tryz.ntmps69
  go_wp2_with (first
    | ((with_reducible refine wpList_box_new 58 (.tmp 2) (f.cells) (some 6) ?hgd ?ho ?hd ?hx ?_); (case hgd | ho | hd | hx => rfl); (intro b0 w0 l0 B0 e0 z0); have c3 := B0.cell (i := 3) rfl)
    | fail)
  have HX0 := Lib.hid B0
  have HB0 := Lib.hid (show Below w.heap.size w w0 from e0.mono l0)
  clear B0 e0 l0 z0 c3
  refine (at_walk root first f.epoch _).mono ?_
  rintro e w1 ⟨he, hb1⟩
  have HX1 := Lib.hid (HX0.out.below hb1 HX0.out.lt)
  have HB1 := Lib.hid (HB0.out.trans (hb1.mono HB0.out.size))
  clear hb1
  rcases he with ⟨c, key, rfl, tk⟩ | ⟨c, rfl⟩ | ⟨c, rfl⟩
  · have HC := Lib.hid (show tagIn root first f from c)
    have TK := Lib.hid tk
    clear c tk
    go_wp2_with fail
    refine (askKey_walk key _).mono ?_
    rintro e w2 ⟨he, hb2⟩
    obtain ⟨k, rfl, tm⟩ := he.yes (by rw [TK.out.size, atL_length])
    have TM := Lib.hid tm
    have HX2 := Lib.hid (HX1.out.below hb2 HX1.out.lt)
    have HB2 := Lib.hid (HB1.out.trans (hb2.mono HB1.out.size))
    clear tm hb2 he
    go_wp2_with fail
    have hS0 : (fun w' => w'.cell? ⟨b0, 4, none⟩ = some (.string f.msg) ∧ w'.cell? ⟨b0, 5, none⟩ = some (.string f.tag)) w2.drew := ⟨HX2.out.drew.cell (i := 4) rfl, HX2.out.drew.cell (i := 5) rfl⟩
    refine wp_region_held_drew (S := fun w' => w'.cell? ⟨b0, 4, none⟩ = some (.string f.msg) ∧ w'.cell? ⟨b0, 5, none⟩ = some (.string f.tag)) (by kernel_rfl) (hS0) (fun hHeld => ?_)
    clear hS0
    refine wpAnyH_take (i := 0) (v := ?_) rfl (by kernel_rfl) (by kernel_rfl) (by kernel_rfl) (fun _ _ _ h => h) (Or.inl ⟨by rfl, ?_⟩) (by assumption) ?_
    rotate_left
    · intro w hSw; (try dsimp only at hSw); go_simp; first | done | with_reducible rfl
    (try simp only [Act.put, Array.getInternal_eq_getElem, List.getElem_toArray, List.getElem_cons_succ, List.getElem_cons_zero, List.setIfInBounds_toArray, List.set_cons_zero, List.set_cons_succ])
    refine wpAnyH_take (i := 1) (v := ?_) rfl (by kernel_rfl) (by kernel_rfl) (by kernel_rfl) (fun _ _ _ h => h) (Or.inl ⟨by rfl, ?_⟩) (by assumption) ?_
    rotate_left
    · intro w hSw; (try dsimp only at hSw); go_simp; first | done | with_reducible rfl
    (try simp only [Act.put, Array.getInternal_eq_getElem, List.getElem_toArray, List.getElem_cons_succ, List.getElem_cons_zero, List.setIfInBounds_toArray, List.set_cons_zero, List.set_cons_succ])
    refine wpAnyH_take (i := 2) (v := ?_) rfl (by kernel_rfl) (by kernel_rfl) (by kernel_rfl) (fun _ _ _ h => h) (Or.inl ⟨by rfl, ?_⟩) (by assumption) ?_
    rotate_left
    · intro w hSw; (try dsimp only at hSw); go_simp; first | done | with_reducible rfl
    (try simp only [Act.put, Array.getInternal_eq_getElem, List.getElem_toArray, List.getElem_cons_succ, List.getElem_cons_zero, List.setIfInBounds_toArray, List.set_cons_zero, List.set_cons_succ])
    refine wpAnyH_take (i := 4) (v := ?_) rfl (by kernel_rfl) (by kernel_rfl) (by kernel_rfl) (fun _ _ _ h => h) (Or.inl ⟨by rfl, ?_⟩) (by assumption) ?_
    rotate_left
    · intro w hSw; (try dsimp only at hSw); go_simp; first | done | with_reducible rfl
    (try simp only [Act.put, Array.getInternal_eq_getElem, List.getElem_toArray, List.getElem_cons_succ, List.getElem_cons_zero, List.setIfInBounds_toArray, List.set_cons_zero, List.set_cons_succ])
    refine wpAnyH_take (i := 5) (v := ?_) rfl (by kernel_rfl) (by kernel_rfl) (by kernel_rfl) (fun _ _ _ h => h) (Or.inl ⟨by rfl, ?_⟩) (by assumption) ?_
    rotate_left
    · intro w hSw; (try dsimp only at hSw); go_simp; first | done | with_reducible rfl
    (try simp only [Act.put, Array.getInternal_eq_getElem, List.getElem_toArray, List.getElem_cons_succ, List.getElem_cons_zero, List.setIfInBounds_toArray, List.set_cons_zero, List.set_cons_succ])
    refine wpAnyH_ready (rs := [3]) (by kernel_rfl) (by simp) ?_
    refine AllReadyH.cons rfl (fun K hK => ?_) AllReadyH.nil
    go_simp
    refine (mac_walk k f.msg _ (by rw [TM.out.size, madeL_length]; omega) hm).mono ?_
    rintro e w3 ⟨t, rfl, tt, hb3⟩
    have HX3 := Lib.hid (HX2.out.drew.below hb3 HX2.out.drew.lt)
    have HB3 := Lib.hid (HB2.out.drew.trans (hb3.mono HB2.out.drew.size))
    have q2 : (t.toList == f.tag.toList) = q := by
      rw [bytesEqB32, ← HQ.out, Bool.eq_iff_iff, decide_eq_true_eq, decide_eq_true_eq, tt.beq (Txt.self _), show k.data.toList = _ from TM.out, show key.data.toList = _ from TK.out]
    clear tt hb3
    (try go_wp2_with fail)
    refine hK.out _ _ (⟨HX3.out.cell (i := 4) rfl, HX3.out.cell (i := 5) rfl⟩) (fun hHeld2 => ?_)
    clear hK K hHeld
    have hHeld := hHeld2
    clear hHeld2
    (try simp only [Act.put, Array.getInternal_eq_getElem, List.getElem_toArray, List.getElem_cons_succ, List.getElem_cons_zero, List.setIfInBounds_toArray, List.set_cons_zero, List.set_cons_succ])
    refine wpAnyH_take (i := 6) (v := ?_) rfl (by kernel_rfl) (by kernel_rfl) (by kernel_rfl) (fun _ _ _ h => h) (Or.inl ⟨by rfl, ?_⟩) (by assumption) ?_
    rotate_left
    · intro w hSw; (try dsimp only at hSw); go_simp; first | done | with_reducible rfl
    (try simp only [Act.put, Array.getInternal_eq_getElem, List.getElem_toArray, List.getElem_cons_succ, List.getElem_cons_zero, List.setIfInBounds_toArray, List.set_cons_zero, List.set_cons_succ])
    refine wpAnyH_take (i := 7) (v := ?_) rfl (by kernel_rfl) (by kernel_rfl) (by kernel_rfl) (fun _ _ _ h => h) (Or.inl ⟨by rfl, ?_⟩) (by assumption) ?_
    rotate_left
    · intro w hSw; (try dsimp only at hSw); go_simp; first | done | with_reducible rfl
    (try simp only [Act.put, Array.getInternal_eq_getElem, List.getElem_toArray, List.getElem_cons_succ, List.getElem_cons_zero, List.setIfInBounds_toArray, List.set_cons_zero, List.set_cons_succ])
    refine wpAnyH_done (by kernel_rfl) ?_ _
    go_wp2_with fail
    go_ret
    refine ⟨congrArg (fun q => Ending.returned (.bool q)) ?_, HB3.out⟩
    rw [taggedS, if_pos HC.out, HQ.out]
  · have HC := Lib.hid (show ¬ tagIn root first f from fun h => by obtain ⟨h1, h2, h3, h4, h5, h6⟩ := h; omega)
    clear c
    go_wp2_with fail
    go_ret
    exact ⟨by rw [taggedS, if_neg HC.out]; rfl, HB1.out⟩
  · have HC := Lib.hid (show ¬ tagIn root first f from fun h => by obtain ⟨h1, h2, h3, h4, h5, h6⟩ := h; omega)
    clear c
    go_wp2_with fail
    go_ret
    exact ⟨by rw [taggedS, if_neg HC.out]; rfl, HB1.out⟩

def MadeAt (l : List Sld) (msg : List UInt8) (k : Nat) : Prop := ∃ y, l[k]? = some y ∧ saidCOk (lastB (l.take k)) k y.r ∧ saidC (lastB (l.take k)).data.toList k y.r = msg
def MadeEnd32 (l : List Sld) (msg : List UInt8) (e : Ending) : Prop := ∃ q : Bool, e = .returned (.bool q) ∧ (q = true ↔ ∃ k, MadeAt l msg k)
theorem lastB_succ {l : List Sld} {k : Nat} {x : Sld} (h : l[k]? = some x) : lastB (l.take (k + 1)) = x.tag := by
  have hk := (List.getElem?_eq_some_iff.1 h).1
  have hl : (l.take (k + 1)).getLast? = some x := by
    rw [List.getLast?_eq_getElem?, List.length_take, Nat.min_eq_left (by omega), List.getElem?_take, if_pos (by omega)]
    exact h
  unfold lastB
  rw [hl]
set_option maxRecDepth 100000 in
set_option maxHeartbeats 4000000 in
theorem made32_walk (v : Value) (l : List Sld) (msg : ByteArray) (w : World) (h : SldRow w v l) (hl : l.length ≤ 1048576) (ht : SldTame l) :
    Calls Tryz.prog 71 #[v, .string msg] w fun e w' => MadeEnd32 l msg.data.toList e ∧ Below w.heap.size w w' := by
  obtain ⟨p, c, rfl⟩ := h.shape
  obtain ⟨n, hn⟩ : ∃ n, n = l.length := ⟨_, rfl⟩
  rw [← hn] at h ⊢
  have hn2 : n ≤ 1048576 := by omega
  have HN := Lib.hid hn
  have HT := Lib.hid ht
  have HR := Lib.hid h; clear h hl hn ht
  go_enter Tryz.func71, Tryz.ntmps71
  go_wp2_with fail
  refine (begin_walk _).mono ?_
  rintro e w1 ⟨r, rfl, tr, hb1⟩
  have hr : r = lastB (l.take 0) := by rw [tr.of]; rfl
  have HRR := Lib.hid hr
  have HB1 := Lib.hid hb1
  clear tr hb1 hr
  go_wp2_with fail
  go_loopw [5, 13] (fun vw i wr => ∃ k : Nat, k ≤ n ∧ i = .int .i64 k ∧ vw = .string (lastB (l.take k)) ∧ (∀ j, j < k → ¬ MadeAt l msg.data.toList j) ∧ Below w.heap.size w wr) (fun _ i _ => n - (intOf i).toNat)
  case atStart => exact ⟨0, by omega, rfl, by rw [HRR.out], fun j hj => by omega, HB1.out⟩
  case round =>
    obtain ⟨k, hk, rfl, rfl, hno, hbel⟩ := hrel
    have HNO := Lib.hid hno; clear hno
    by_cases hlt : k < n
    · have hlt' : (k : Int) < n := by omega
      obtain ⟨y, hy⟩ : ∃ y, l[k]? = some y := ⟨_, List.getElem?_eq_getElem (by rw [← HN.out]; exact hlt)⟩
      rcases HR.out with ⟨h0, _⟩ | ⟨g, o, c', hq, hcc, hg, hat⟩
      · have := HN.out; rw [h0] at this; simp at this; omega
      rw [← HN.out] at hq
      injection hq with hq1 _ hq3
      subst hq1 hq3
      have hrange : wr.rangeAt g (o + k * 9) y.cells := fun j u hu => by rw [hbel.cell (by show g < w.heap.size; exact hg)]; exact hat k y hy j u hu
      obtain ⟨c0, c1, c2, c3, c4, c5, c6, c7, c8⟩ := sld_cells hrange
      have HY := Lib.hid hy
      have HTY := Lib.hid (HT.out k y hy)
      obtain ⟨was, hwas⟩ : ∃ was, was = lastB (l.take k) := ⟨_, rfl⟩
      have HW := Lib.hid hwas
      rw [← hwas]
      clear hrange hat hy hwas
      go_wp2_with (first
        | ((with_reducible refine wpList_alloc_new 27 (Sld.cells ⟨Rec.zero, ⟨#[]⟩⟩) zeroSld (some 7) ?hgd ?ho ?hd ?_); (case hgd | ho | hd => rfl); (intro b5 w5 l5 B5 e5 z5))
        | ((with_reducible refine wpList_store_new 27 (.tmp 7) (.tmp 17) b5 (Sld.cells ⟨Rec.zero, ⟨#[]⟩⟩) y.cells 27 B5 rfl rsizeSld (Sld.cells_one _) ?hgd ?ho ?hx ?hy ?_); (case hgd | ho | hx | hy => rfl); (intro w6 B6 o6); (have hb6 := o6.below (e5.mono l5) l5); (have d0 := B6.cell (i := 0) rfl); (have d1 := B6.cell (i := 1) rfl); (have d2 := B6.cell (i := 2) rfl); (have d3 := B6.cell (i := 3) rfl); (have d4 := B6.cell (i := 4) rfl); (have d5 := B6.cell (i := 5) rfl); (have d6 := B6.cell (i := 6) rfl); (have d7 := B6.cell (i := 7) rfl))
        | fail)
      have HX6 := Lib.hid B6
      have HB6 := Lib.hid (hbel.trans (hb6.mono hbel.size))
      clear B5 B6 o6 hb6 e5 l5 z5 d0 d1 d2 d3 d4 d5 d6 d7 c0 c1 c2 c3 c4 c5 c6 c7 c8 hbel
      refine (csaid_walk was (k : Int) y.r _ HTY.out.2.1 HTY.out.1 HTY.out.2.2.2 (by have := hn2; unfold Fits; omega)).mono ?_
      rintro e w7 ⟨he, hb7⟩
      have HX7 := Lib.hid (HX6.out.below hb7 HX6.out.lt)
      have HB7 := Lib.hid (HB6.out.trans (hb7.mono HB6.out.size))
      have d8 : w7.cell? ⟨b5, 8, none⟩ = some (.string y.tag) := HX7.out.cell (i := 8) rfl
      clear hb7
      have hnext : ¬ MadeAt l msg.data.toList k → ∀ j, j < k + 1 → ¬ MadeAt l msg.data.toList j := fun hh j hj => by
        by_cases hjk : j < k
        · exact HNO.out j hjk
        · obtain rfl : j = k := by omega
          exact hh
      have HNX := Lib.hid hnext
      clear hnext
      rcases he with ⟨hok, s, rfl, ts⟩ | ⟨hok, rfl⟩
      · have HOK := Lib.hid hok
        have TS := Lib.hid ts
        clear hok ts
        by_cases hm : s.data.toList = msg.data.toList
        · have q1 : (s.toList == msg.toList) = true := by rw [bytesEqB32, decide_eq_true_eq]; exact (Txt.self s).eq hm.symm
          have HM := Lib.hid hm
          clear hm
          go_wp2_with fail
          go_ret
          refine ⟨⟨true, rfl, ⟨fun _ => ⟨k, y, HY.out, ?_, ?_⟩, fun _ => rfl⟩⟩, HB7.out⟩
          · rw [← HW.out]; exact HOK.out
          · rw [← HW.out, ← HM.out]; exact TS.out.symm
        · have q1 : (s.toList == msg.toList) = false := Txt.other (Txt.self _) (Txt.self _) hm
          have HM := Lib.hid hm
          clear hm
          go_wp2_with fail
          go_roundw
          case rel =>
            refine ⟨k + 1, by omega, by go_num, by rw [lastB_succ HY.out], HNX.out ?_, HB7.out⟩
            rintro ⟨y', hy', h1, h2⟩
            rw [HY.out] at hy'
            cases hy'
            rw [← HW.out] at h2
            exact HM.out (by rw [← h2]; exact TS.out)
          case measure => simp [intOf]; omega
      · have HOK := Lib.hid hok
        clear hok
        go_wp2_with fail
        go_roundw
        case rel =>
          refine ⟨k + 1, by omega, by go_num, by rw [lastB_succ HY.out], HNX.out ?_, HB7.out⟩
          rintro ⟨y', hy', h1, h2⟩
          rw [HY.out] at hy'
          cases hy'
          rw [← HW.out] at h1
          exact HOK.out h1
        case measure => simp [intOf]; omega
    · obtain rfl : k = n := by omega
      go_wp2_with fail
      go_ret
      refine ⟨⟨false, rfl, ⟨fun h => (by cases h), fun ⟨j, hj⟩ => ?_⟩⟩, hbel⟩
      have hj0 := hj
      obtain ⟨y, hy, _⟩ := hj0
      have := (List.getElem?_eq_some_iff.1 hy).1
      exact absurd hj (HNO.out j (by rw [HN.out]; exact this))
end Go.Proofs.YtidekfbgjghcjaaGreat

