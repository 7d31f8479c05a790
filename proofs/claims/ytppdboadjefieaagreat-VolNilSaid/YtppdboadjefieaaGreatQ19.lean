/- A key's words (chapter 5): expand. A block's state (chapter 5): each, with the stand-ins; a cipher in memory. A cipher (chapter 5): New, Encrypt. A cipher (chapter 5): Encrypt. A Builder of the call's own beside other blocks: what a write leaves as it was. -/
import Derived.Test.YtppdboadjefieaaGreatQ18
import Derived.Test.YtppdboadjefieaaGreatQ2
import Derived.Test.YtppdboadjefieaaGreatQ5
import Derived.Shelf.Strings.BuilderK
set_option linter.unusedSimpArgs false
set_option linter.unusedVariables false
namespace Go.Proofs.YtppdboadjefieaaGreat
open Go Go.RowKit
set_option maxRecDepth 100000

theorem zero176 (w : World) : Sem.run Tryz.prog (zeroValue 417) w = .ok (.agg (bytesV (List.replicate 176 0)).toArray) w := by kernel_rfl
theorem zero4 (w : World) : Sem.run Tryz.prog (zeroValue 415) w = .ok (.agg (bytesV (List.replicate 4 0)).toArray) w := by kernel_rfl
def expM (key : List UInt8) (i : Nat) : List UInt8 := (expTo key i).1 ++ List.replicate (176 - 4 * i) 0
theorem expM_length (key : List UInt8) (i : Nat) (h : i ≤ 44) : (expM key i).length = 176 := by unfold expM; rw [List.length_append, expTo_length, List.length_replicate]; omega
theorem expM_zero (key : List UInt8) : expM key 0 = List.replicate 176 0 := rfl
theorem expM_all (key : List UInt8) : expM key 44 = expL key := by unfold expM expL; simp
def expR (key : List UInt8) (i : Nat) (f : Nat → UInt8) (r : Nat) : List UInt8 := (expTo key i).1 ++ ((List.range r).map f ++ List.replicate (176 - 4 * i - r) 0)
theorem expR_zero (key : List UInt8) (i : Nat) (f : Nat → UInt8) : expR key i f 0 = expM key i := rfl
theorem expR_length (key : List UInt8) (i : Nat) (f : Nat → UInt8) (r : Nat) (h : 4 * i + r ≤ 176) : (expR key i f r).length = 176 := by unfold expR; simp [expTo_length]; omega
theorem expR_set (key : List UInt8) (i : Nat) (f : Nat → UInt8) (r : Nat) (h : 4 * i + r < 176) : (expR key i f r).set (4 * i + r) (f r) = expR key i f (r + 1) := by
  unfold expR
  have e : List.replicate (176 - 4 * i - r) (0 : UInt8) = 0 :: List.replicate (176 - 4 * i - (r + 1)) 0 := by rw [show 176 - 4 * i - r = (176 - 4 * i - (r + 1)) + 1 by omega, List.replicate_succ]
  rw [List.set_append_right _ _ (by rw [expTo_length]; omega), expTo_length, show 4 * i + r - 4 * i = r by omega, List.set_append_right _ _ (by simp), List.length_map, List.length_range, Nat.sub_self, e, List.set_cons_zero, List.range_succ, List.map_append, List.append_assoc]
  rfl
theorem expR_old (key : List UInt8) (i : Nat) (f : Nat → UInt8) (r j : Nat) (h : j < 4 * i) : (expR key i f r).getD j 0 = (expTo key i).1.getD j 0 := by
  unfold expR
  rw [List.getD, List.getD, List.getElem?_append_left (by rw [expTo_length]; exact h)]
theorem expR_word (key : List UInt8) (i : Nat) (f : Nat → UInt8) : expR key i f 4 = (expTo key i).1 ++ ((List.range 4).map f) ++ List.replicate (176 - 4 * (i + 1)) 0 := by
  unfold expR
  rw [List.append_assoc, show 176 - 4 * i - 4 = 176 - 4 * (i + 1) by omega]
theorem expM_low (key : List UInt8) (i : Nat) (h : i < 4) : expR key i (fun r => key.getD (4 * i + r) 0) 4 = expM key (i + 1) := by
  rw [expR_word]; unfold expM; rw [show (expTo key (i + 1)).1 = (expTo key i).1 ++ (List.range 4).map (fun r => key.getD (4 * i + r) 0) by simp only [expTo, h, if_true]]
theorem expM_high (key : List UInt8) (i : Nat) (h : ¬ i < 4) : expR key i (fun r => (expTo key i).1.getD (4 * (i - 4) + r) 0 ^^^ (wordT (expTo key i).1 i (expTo key i).2).getD r 0) 4 = expM key (i + 1) := by
  rw [expR_word]; unfold expM; rw [show (expTo key (i + 1)).1 = (expTo key i).1 ++ (List.range 4).map (fun r => (expTo key i).1.getD (4 * (i - 4) + r) 0 ^^^ (wordT (expTo key i).1 i (expTo key i).2).getD r 0) by simp only [expTo, h, if_false]]
theorem expTo_pow_low (key : List UInt8) (i : Nat) (h : i < 4) : (expTo key (i + 1)).2 = (expTo key i).2 := by simp only [expTo, h, if_true]
theorem expTo_pow_turn (key : List UInt8) (i : Nat) (h : ¬ i < 4) (h4 : i % 4 = 0) : (expTo key (i + 1)).2 = mulB (expTo key i).2 2 := by simp only [expTo, h, h4, if_true, if_false]
theorem expTo_pow_same (key : List UInt8) (i : Nat) (h : ¬ i < 4) (h4 : i % 4 ≠ 0) : (expTo key (i + 1)).2 = (expTo key i).2 := by simp only [expTo, h, h4, if_false]
theorem four_take (l : List UInt8) (a : Nat) (h : a + 4 ≤ l.length) : (l.drop a).take 4 = (List.range 4).map fun r => l.getD (a + r) 0 := by
  apply List.ext_getElem?
  intro j
  by_cases hj : j < 4
  · rw [List.getElem?_take_of_lt hj, List.getElem?_drop, List.getElem?_map, List.getElem?_range hj]
    simp [List.getElem?_eq_getElem (show a + j < l.length by omega)]
  · rw [List.getElem?_take_eq_none (by omega), List.getElem?_eq_none (by simp; omega)]
structure ExpAt (w wr : World) (b2 b3 b4 : Nat) (l : List UInt8) : Prop where
  ws : Blk wr b3 (bytesV l) 417
  box : Blk wr b4 (bytesV boxL) 419
  out : Blk wr b2 (bytesV (List.replicate 176 0)) 417
  below : Below w.heap.size w wr
theorem ExpAt.next {w wr wx : World} {b2 b3 b4 : Nat} {l : List UInt8} (h : ExpAt w wr b2 b3 b4 l) (hb : Below wr.heap.size wr wx) : ExpAt w wx b2 b3 b4 l :=
  ⟨h.ws.below hb h.ws.lt, h.box.below hb h.box.lt, h.out.below hb h.out.lt, h.below.trans (hb.mono h.below.size)⟩
theorem ExpAt.set {w wr : World} {b2 b3 b4 : Nat} {l : List UInt8} (h : ExpAt w wr b2 b3 b4 l) (hn : b2 < b3 ∧ b3 < b4) (hl : w.heap.size ≤ b3) (i : Nat) (b : UInt8) : ExpAt w (wr.setCell ⟨b3, i, none⟩ (.int .u8 ((b.toNat : Nat) : Int))) b2 b3 b4 (l.set i b) :=
  ⟨(h.ws.set i _).ext (bytesV_set _ _ _), h.box.set_other (a := ⟨b3, i, none⟩) (by show b4 ≠ b3; omega) _, h.out.set_other (a := ⟨b3, i, none⟩) (by show b2 ≠ b3; omega) _, h.below.setCell (p := ⟨b3, i, none⟩) hl _⟩
theorem ExpAt.drew {w wr : World} {b2 b3 b4 : Nat} {l : List UInt8} (h : ExpAt w wr b2 b3 b4 l) : ExpAt w wr.drew b2 b3 b4 l := ⟨h.ws.drew, h.box.drew, h.out.drew, h.below.drew⟩
theorem ExpAt.copy {w wr : World} {b2 b3 b4 k : Nat} {key vs : List UInt8} (h : ExpAt w wr b2 b3 b4 (expM key k)) (hk : k < 4) (hn : b2 < b3 ∧ b3 < b4) (hl : w.heap.size ≤ b3) (hv : vs = (List.range 4).map fun r => key.getD (4 * k + r) 0) : ExpAt w (wr.setCells b3 (4 * k) (bytesV vs)) b2 b3 b4 (expM key (k + 1)) := by
  have o := (Only.refl b3 wr).setCells (bytesV vs) (4 * k)
  have hvl : vs.length = 4 := by rw [hv]; simp
  refine ⟨(h.ws.setCells (bytesV vs) (4 * k) (by rw [bytesV_length, bytesV_length, expM_length _ _ (by omega), hvl]; omega)).ext ?_, o.blk h.box (by omega), o.blk h.out (by omega), o.below h.below hl⟩
  rw [← expM_low key k hk, expR_word, ← hv, bytesV_length, hvl, bytesV_append, bytesV_append]
  have e1 : (bytesV (expM key k)).take (4 * k) = bytesV (expTo key k).1 := by unfold expM; rw [bytesV_append, List.take_left' (by rw [bytesV_length, expTo_length])]
  have e2 : (bytesV (expM key k)).drop (4 * k + 4) = bytesV (List.replicate (176 - 4 * (k + 1)) 0) := by
    unfold expM
    rw [bytesV_append, ← List.drop_drop, List.drop_left' (by rw [bytesV_length, expTo_length]), show 176 - 4 * k = 4 + (176 - 4 * (k + 1)) by omega, ← List.replicate_append_replicate, bytesV_append, List.drop_left' (by rw [bytesV_length]; simp)]
  rw [e1, e2]
def wordF (key : List UInt8) (k r : Nat) : UInt8 := (expTo key k).1.getD (4 * (k - 4) + r) 0 ^^^ (wordT (expTo key k).1 k (expTo key k).2).getD r 0
theorem ExpAt.at_val {w wr : World} {b2 b3 b4 i : Nat} {l : List UInt8} {v : Value} {b : UInt8} (h : ExpAt w (wr.setCell ⟨b3, i, none⟩ (.int .u8 ((b.toNat : Nat) : Int))) b2 b3 b4 l) (hv : v = .int .u8 ((b.toNat : Nat) : Int)) : ExpAt w (wr.setCell ⟨b3, i, none⟩ v) b2 b3 b4 l := hv ▸ h
theorem exp_range {wr : World} {b3 k q : Nat} {key : List UInt8} {x0 x1 x2 x3 : UInt8} {t : TypeId} (h : Blk wr b3 (bytesV (expM key k)) t) (hk : k ≤ 44) (hq : q + 1 = k) (h0 : (expTo key k).1.getD (4 * (k - 1) + 0) 0 = x0) (h1 : (expTo key k).1.getD (4 * (k - 1) + 1) 0 = x1) (h2 : (expTo key k).1.getD (4 * (k - 1) + 2) 0 = x2) (h3 : (expTo key k).1.getD (4 * (k - 1) + 3) 0 = x3) : wr.rangeAt b3 (q * 4) (bytesV [x0, x1, x2, x3]) := by
  have hc : ∀ j, j < 4 → wr.cell? ⟨b3, q * 4 + j, none⟩ = some (.int .u8 ((((expTo key k).1.getD (4 * (k - 1) + j) 0).toNat : Nat) : Int)) := by
    intro j hj
    have := bytes_cell h (q * 4 + j) (by rw [expM_length _ _ hk]; omega)
    rw [← expR_zero key k (fun _ => 0), expR_old _ _ _ _ _ (by omega), show q * 4 + j = 4 * (k - 1) + j by omega] at this
    rw [show q * 4 + j = 4 * (k - 1) + j by omega]
    exact this
  intro j v hv
  match j, hv with
  | 0, hv => simp [bytesV] at hv; subst hv; rw [hc 0 (by decide), h0]
  | 1, hv => simp [bytesV] at hv; subst hv; rw [hc 1 (by decide), h1]
  | 2, hv => simp [bytesV] at hv; subst hv; rw [hc 2 (by decide), h2]
  | 3, hv => simp [bytesV] at hv; subst hv; rw [hc 3 (by decide), h3]
  | j + 4, hv => simp [bytesV] at hv
theorem ExpAt.only {w wr wx : World} {b2 b3 b4 b7 : Nat} {l : List UInt8} (h : ExpAt w wr b2 b3 b4 l) (o : Only b7 wr wx) (hn : b2 ≠ b7 ∧ b3 ≠ b7 ∧ b4 ≠ b7) (hl : w.heap.size ≤ b7) : ExpAt w wx b2 b3 b4 l :=
  ⟨o.blk h.ws hn.2.1, o.blk h.box hn.2.2, o.blk h.out hn.1, o.below h.below hl⟩
set_option maxHeartbeats 8000000 in
theorem expand_walk (key : ByteArray) (w : World) (hk : key.size = 16) :
    Calls Tryz.prog 367 #[.string key] w fun e w' => e = .returned (.agg (bytesV (expL key.data.toList)).toArray) ∧ Below w.heap.size w w' := by
  have hks : (key.size : Int) = 16 := by omega
  have HK := Lib.hid hk
  have HKL := Lib.hid (show key.data.toList.length = 16 from hk)
  clear hk
  go_enter Tryz.func367, Tryz.ntmps367
  go_wp2_with (first
    | ((with_reducible refine wpList_alloc_new 417 _ zero176 (some 2) ?hgd ?ho ?hd ?_); (case hgd | ho | hd => rfl); (intro b2 w1 l1 B1 e1 z1))
    | ((with_reducible refine wpList_alloc_new 417 _ zero176 (some 3) ?hgd ?ho ?hd ?_); (case hgd | ho | hd => rfl); (intro b3 w2 l2 B2 e2 z2))
    | fail)
  have HL2 := Lib.hid l1
  have HL3 := Lib.hid (Nat.le_trans l1 (Nat.le_of_lt (Nat.lt_of_lt_of_le z1 l2)))
  have HN := Lib.hid (show b2 < b3 from Nat.lt_of_lt_of_le z1 l2)
  have HO2 := Lib.hid (B1.below e2 (Nat.lt_of_lt_of_le z1 l2))
  have HW2 := Lib.hid B2
  have HBE2 := Lib.hid ((e1.mono l1).trans (e2.mono HL3.out))
  clear B1 B2 e1 e2 z1 z2 l1 l2
  refine (boxes_walk _).mono ?_
  rintro e w3 ⟨rfl, hb3⟩
  have HO3 := Lib.hid (HO2.out.below hb3 HO2.out.lt)
  have HW3 := Lib.hid (HW2.out.below hb3 HW2.out.lt)
  have HBE3 := Lib.hid (HBE2.out.trans (hb3.mono HBE2.out.size))
  have hlz : (bytesV boxL).length = (bytesV (List.replicate 256 0)).length := by rw [bytesV_length, bytesV_length, boxL_length, List.length_replicate]
  clear hb3
  go_wp2_with (first
    | ((with_reducible refine wpList_alloc_new 419 _ zero256 (some 4) ?hgd ?ho ?hd ?_); (case hgd | ho | hd => rfl); (intro b4 w4 l4 B4 e4 z4))
    | ((with_reducible refine wpList_store_new 419 (.tmp 4) (.tmp 9) b4 (bytesV (List.replicate 256 0)) (bytesV boxL) 419 B4 hlz (size256 boxL_length) (bytesV_one _) ?hgd ?ho ?hx ?hy ?_); (case hgd | ho | hx | hy => rfl); (intro w5 B5 o5))
    | fail)
  have hb5 : Below w3.heap.size w3 w5 := o5.below (e4.mono l4) l4
  have HN4 := Lib.hid (show b2 < b3 ∧ b3 < b4 from ⟨HN.out, Nat.lt_of_lt_of_le HW3.out.lt l4⟩)
  have HI := Lib.hid (show ExpAt w w5 b2 b3 b4 (expM key.data.toList 0) from ⟨by rw [expM_zero]; exact HW3.out.below hb5 HW3.out.lt, B5, HO3.out.below hb5 HO3.out.lt, HBE3.out.trans (hb5.mono HBE3.out.size)⟩)
  clear B4 B5 e4 o5 z4 l4 hb5 hlz
  go_loopw [5, 10] (fun p i wr => ∃ k : Nat, k ≤ 44 ∧ i = .int .i64 k ∧ p = .int .u8 (((expTo key.data.toList k).2.toNat : Nat) : Int) ∧ ExpAt w wr b2 b3 b4 (expM key.data.toList k)) (fun _ i _ => 44 - (intOf i).toNat)
  case atStart => exact ⟨0, by omega, rfl, rfl, HI.out⟩
  case round =>
    clear HI
    obtain ⟨k, hk, rfl, rfl, hI⟩ := hrel
    have HI := Lib.hid hI
    clear hI
    by_cases hlt : k < 44
    · by_cases h4 : k < 4
      · have hpl := expTo_pow_low key.data.toList k h4
        have HPL := Lib.hid hpl
        have HLOW := Lib.hid (expM_low key.data.toList k h4)
        clear hpl
        obtain ⟨k1, hk1⟩ : ∃ k1, Hid (k1 = k + 1) := ⟨_, (rfl : k + 1 = k + 1)⟩
        have i0 : IntKind.i64.wrap 0 = 0 := by decide +kernel
        have i1 : IntKind.i64.wrap 1 = 1 := by decide +kernel
        have i2 : IntKind.i64.wrap 2 = 2 := by decide +kernel
        have i3 : IntKind.i64.wrap 3 = 3 := by decide +kernel
        have i4 : IntKind.i64.wrap 4 = 4 := by decide +kernel
        have i5 : IntKind.i64.wrap 5 = 5 := by decide +kernel
        have i6 : IntKind.i64.wrap 6 = 6 := by decide +kernel
        have i7 : IntKind.i64.wrap 7 = 7 := by decide +kernel
        have i8 : IntKind.i64.wrap 8 = 8 := by decide +kernel
        have i9 : IntKind.i64.wrap 9 = 9 := by decide +kernel
        have i10 : IntKind.i64.wrap 10 = 10 := by decide +kernel
        have i11 : IntKind.i64.wrap 11 = 11 := by decide +kernel
        have i12 : IntKind.i64.wrap 12 = 12 := by decide +kernel
        have hcase : k = 0 ∨ k = 1 ∨ k = 2 ∨ k = 3 := by omega
        rcases hcase with rfl | rfl | rfl | rfl
        all_goals
          go_wp2_with fail
          refine wp_region_still_tail_drew 7 (by kernel_rfl) (by kernel_rfl) ?_
          simp only [List.take_succ_cons, List.take_zero, List.drop_succ_cons, List.drop_zero]
          iterate 7 still_step
          refine wpStill_nil ?_
          go_wp2_with fail
          rw [run_copy_part (P := Tryz.prog) _ _ _ 5 b3 _ 4 4 _ _ _ Tryz.underlying121 byte_sz HI.out.ws.drew (by first | (rw [HK.out]; decide) | (rw [ByteArray.size_extract, HK.out]; decide)) (by rw [bytesV_length, expM_length _ _ (by decide)]; decide)]
          go_wp2_with fail
          go_roundw
          case rel => exact ⟨k1, by have := hk1.out; omega, by rw [hk1.out]; rfl, by rw [hk1.out, HPL.out], by
            rw [hk1.out]
            refine ExpAt.copy (ExpAt.drew HI.out) (by decide) HN4.out HL3.out ?_
            first | exact four_take key.data.toList 0 (by rw [HKL.out]; decide) | (rw [HK.out, List.take_take]; exact four_take key.data.toList _ (by rw [HKL.out]; decide))⟩
          case measure => simp [intOf]
      · obtain ⟨p, q, hpq⟩ : ∃ p q : Nat, Hid (k = p + 4 ∧ q = p + 3) := ⟨k - 4, k - 1, by show _ ∧ _; omega⟩
        obtain ⟨k1, hk1⟩ : ∃ k1, Hid (k1 = k + 1) := ⟨_, (rfl : k + 1 = k + 1)⟩
        obtain ⟨x0, X0⟩ : ∃ x, Hid ((expTo key.data.toList k).1.getD (4 * (k - 1) + 0) 0 = x) := ⟨_, rfl⟩
        obtain ⟨x1, X1⟩ : ∃ x, Hid ((expTo key.data.toList k).1.getD (4 * (k - 1) + 1) 0 = x) := ⟨_, rfl⟩
        obtain ⟨x2, X2⟩ : ∃ x, Hid ((expTo key.data.toList k).1.getD (4 * (k - 1) + 2) 0 = x) := ⟨_, rfl⟩
        obtain ⟨x3, X3⟩ : ∃ x, Hid ((expTo key.data.toList k).1.getD (4 * (k - 1) + 3) 0 = x) := ⟨_, rfl⟩
        have HR := Lib.hid (exp_range HI.out.ws (by omega) (show q + 1 = k by have := hpq.out; omega) X0.out X1.out X2.out X3.out)
        have hq1 : ((k : Nat) : Int) - 1 = (q : Int) := by have := hpq.out; omega
        have hq2 : (q : Int) < 44 := by have := hpq.out; omega
        have hk4 : ¬ ((k : Nat) : Int) < 4 := by omega
        have hz4 : (bytesV [x0, x1, x2, x3]).length = (bytesV (List.replicate 4 0)).length := rfl
        have HHI := Lib.hid (expM_high key.data.toList k h4)
        by_cases hm : k % 4 = 0
        · have hrm : ((k : Nat) : Int) % 4 = 0 := by omega
          have HPH := Lib.hid (expTo_pow_turn key.data.toList k h4 hm)
          go_wp2_with (first
            | ((with_reducible refine wpList_load_met 415 (.tmp 25) b3 (q * 4) (bytesV [x0, x1, x2, x3]) _ (some 26) HR.out Tryz.underlying415 rfl (size4b rfl) ?hg ?ho ?hds ?hx ?_); (case ho | hg | hds | hx => rfl))
            | ((with_reducible refine wpList_alloc_new 415 _ zero4 (some 7) ?hgd ?ho ?hd ?_); (case hgd | ho | hd => rfl); (intro b7 wa la Ba ea za))
            | ((with_reducible refine wpList_store_new 415 (.tmp 7) (.tmp 26) b7 (bytesV (List.replicate 4 0)) (bytesV [x0, x1, x2, x3]) 415 Ba hz4 (size4b rfl) (bytesV_one _) ?hgd ?ho ?hx ?hy ?_); (case hgd | ho | hx | hy => rfl); (intro wb Bb ob))
            | fail)
          have hbb : Below wr.heap.size wr wb := ob.below (ea.mono la) la
          have HN7 := Lib.hid (show b4 < b7 from Nat.lt_of_lt_of_le HI.out.box.lt la)
          have HZ := Lib.hid (HI.out.next hbb)
          have HB7 := Lib.hid Bb
          clear Ba ea za la Bb ob hbb

          have y0 : wb.cell? ⟨b7, 0, none⟩ = some (.int .u8 ((x0.toNat : Nat) : Int)) := HB7.out.cell rfl
          have y1 : wb.cell? ⟨b7, 1, none⟩ = some (.int .u8 ((x1.toNat : Nat) : Int)) := HB7.out.cell rfl
          have y2 : wb.cell? ⟨b7, 2, none⟩ = some (.int .u8 ((x2.toNat : Nat) : Int)) := HB7.out.cell rfl
          have y3 : wb.cell? ⟨b7, 3, none⟩ = some (.int .u8 ((x3.toNat : Nat) : Int)) := HB7.out.cell rfl
          have z0 : wb.cell? ⟨b4, x0.toNat, none⟩ = some (.int .u8 (((boxB x0).toNat : Nat) : Int)) := bytes_cell HZ.out.box x0.toNat (by rw [boxL_length]; simpa using x0.toNat_lt)
          have z1 : wb.cell? ⟨b4, x1.toNat, none⟩ = some (.int .u8 (((boxB x1).toNat : Nat) : Int)) := bytes_cell HZ.out.box x1.toNat (by rw [boxL_length]; simpa using x1.toNat_lt)
          have z2 : wb.cell? ⟨b4, x2.toNat, none⟩ = some (.int .u8 (((boxB x2).toNat : Nat) : Int)) := bytes_cell HZ.out.box x2.toNat (by rw [boxL_length]; simpa using x2.toNat_lt)
          have z3 : wb.cell? ⟨b4, x3.toNat, none⟩ = some (.int .u8 (((boxB x3).toNat : Nat) : Int)) := bytes_cell HZ.out.box x3.toNat (by rw [boxL_length]; simpa using x3.toNat_lt)
          have l0 : ((x0.toNat : Nat) : Int) < 256 := by have : x0.toNat < 256 := by simpa using x0.toNat_lt
                                                         omega
          have l1 : ((x1.toNat : Nat) : Int) < 256 := by have : x1.toNat < 256 := by simpa using x1.toNat_lt
                                                         omega
          have l2 : ((x2.toNat : Nat) : Int) < 256 := by have : x2.toNat < 256 := by simpa using x2.toNat_lt
                                                         omega
          have l3 : ((x3.toNat : Nat) : Int) < 256 := by have : x3.toNat < 256 := by simpa using x3.toNat_lt
                                                         omega
          refine wp_region_still_tail_drew 18 (by kernel_rfl) (by kernel_rfl) ?_
          simp only [List.take_succ_cons, List.take_zero, List.drop_succ_cons, List.drop_zero]
          iterate 18 still_step
          refine wpStill_nil ?_
          obtain ⟨u, hu⟩ : ∃ u, Hid (boxB x1 ^^^ (expTo key.data.toList k).2 = u) := ⟨_, (rfl : boxB x1 ^^^ (expTo key.data.toList k).2 = _)⟩
          rw [bits_xor hu.out]
          go_wp2_with (first
            | ((with_reducible refine wpList_build_eq 415 ?parts48 (bytesV [u, boxB x2, boxB x3, boxB x0]) ?hg ?ho ?hf ?_); (case hg | ho => rfl); (case hf => kernel_rfl))
            | ((with_reducible refine wpList_store_new 415 (.tmp 7) (.tmp 48) b7 (bytesV [x0, x1, x2, x3]) (bytesV [u, boxB x2, boxB x3, boxB x0]) 415 HB7.out.drew rfl (size4b rfl) (bytesV_one _) ?hgd ?ho ?hx ?hy ?_); (case hgd | ho | hx | hy => rfl); (intro wc Bc oc))
            | fail)
          have HTW := Lib.hid (show [u, boxB x2, boxB x3, boxB x0] = wordT (expTo key.data.toList k).1 k (expTo key.data.toList k).2 by unfold wordT; rw [if_pos hm, ← hu.out, ← X0.out, ← X1.out, ← X2.out, ← X3.out]; rfl)
          have HTL := Lib.hid (show [u, boxB x2, boxB x3, boxB x0].length = 4 from rfl)
          have HZc := Lib.hid (show ExpAt w wc b2 b3 b4 (expM key.data.toList k) from HZ.out.drew.only oc (by have := HN7.out; have := HN4.out; omega) (by have := HN7.out; have := HN4.out; have := HL3.out; omega))
          have HB7c := Lib.hid Bc
          clear y0 y1 y2 y3 z0 z1 z2 z3 l0 l1 l2 l3 Bc oc
          refine (mul_walk (expTo key.data.toList k).2 2 _).mono ?_
          rintro e w' ⟨rfl, rfl⟩
          rw [← HPH.out]
          go_wp2_with fail
          have hd44 : decide (((k : Nat) : Int) < 44) = true := decide_eq_true (by omega)
          go_loopw [51] (fun i wq => ∃ r : Nat, r ≤ 4 ∧ i = .int .i64 r ∧ ExpAt w wq b2 b3 b4 (expR key.data.toList k (wordF key.data.toList k) r) ∧ Blk wq b7 (bytesV [u, boxB x2, boxB x3, boxB x0]) 415) (fun i _ => 4 - (intOf i).toNat)
          case atStart => exact ⟨0, by omega, rfl, by rw [expR_zero]; exact HZc.out, HB7c.out⟩
          case round =>
            obtain ⟨r, hr, rfl, hJ, hT⟩ := hrel
            have HJ := Lib.hid hJ
            have HT := Lib.hid hT
            clear hJ hT
            by_cases hlt4 : r < 4
            · have HRL := Lib.hid (show (expR key.data.toList k (wordF key.data.toList k) r).length = 176 from expR_length _ _ _ _ (by omega))
              have ca := bytes_cell HJ.out.ws (p * 4 + r) (by rw [HRL.out]; have := hpq.out; omega)
              rw [expR_old _ _ _ _ _ (by have := hpq.out; omega)] at ca
              have cb := bytes_cell HT.out r (by rw [HTL.out]; exact hlt4)
              have cc := bytes_cell HJ.out.ws (k * 4 + r) (by rw [HRL.out]; omega)
              have cf := HJ.out.ws.free (k * 4 + r)
              have HSS := Lib.hid (expR_set key.data.toList k (wordF key.data.toList k) r (by omega))
              have HWF := Lib.hid (fun (j : Nat) (hj : j = p * 4 + r) => (show (expTo key.data.toList k).1.getD j 0 ^^^ [u, boxB x2, boxB x3, boxB x0].getD r 0 = wordF key.data.toList k r by rw [hj, HTW.out]; unfold wordF; rw [show k - 4 = p by have := hpq.out; omega, show 4 * p + r = p * 4 + r by omega]))
              have i0 : IntKind.i64.wrap 0 = 0 := by decide +kernel
              have i1 : IntKind.i64.wrap 1 = 1 := by decide +kernel
              have i2 : IntKind.i64.wrap 2 = 2 := by decide +kernel
              have i3 : IntKind.i64.wrap 3 = 3 := by decide +kernel
              have i4 : IntKind.i64.wrap 4 = 4 := by decide +kernel
              have n4 : IntKind.i64.wrap (((k : Nat) : Int) - 4) = (p : Int) := by rw [IntWalk.i64_in _ (by have := hpq.out; omega)]; have := hpq.out; omega
              have p44 : (p : Int) < 44 := by have := hpq.out; omega
              have k44 : ((k : Nat) : Int) < 44 := by omega
              obtain ⟨r1, hr1⟩ : ∃ r1, Hid (r1 = r + 1) := ⟨_, (rfl : r + 1 = r + 1)⟩
              have hcase : r = 0 ∨ r = 1 ∨ r = 2 ∨ r = 3 := by omega
              rcases hcase with rfl | rfl | rfl | rfl
              all_goals
                (try simp only [Nat.add_zero] at ca cc cf)
                go_wp2_with fail
                refine wp_region_still_tail_drew 14 (by kernel_rfl) (by kernel_rfl) ?_
                simp only [List.take_succ_cons, List.take_zero, List.drop_succ_cons, List.drop_zero]
                iterate 14 still_step
                refine wpStill_nil ?_
                go_wp2_with fail
                go_roundw
                case rel => exact ⟨r1, by have := hr1.out; omega, by rw [hr1.out]; rfl, by
                  rw [hr1.out, ← HSS.out, Nat.mul_comm 4 k]
                  exact ((HJ.out.set HN4.out HL3.out _ _).at_val (bits_xor (HWF.out _ rfl))).drew, (HT.out.set_other (a := ⟨b3, _, none⟩) (by have := HN7.out; have := HN4.out; show b7 ≠ b3; omega) _).drew⟩
                case measure => simp [intOf]
            · obtain rfl : r = 4 := by omega
              go_wp2_with fail
              go_roundw
              case rel => exact ⟨k1, by have := hk1.out; omega, by rw [hk1.out]; go_num, by rw [hk1.out], by rw [hk1.out, ← HHI.out]; exact HJ.out⟩
              case measure => simp [intOf]; omega
        · have hrm : ¬ ((k : Nat) : Int) % 4 = 0 := by omega
          have HPH := Lib.hid (expTo_pow_same key.data.toList k h4 hm)
          have HTW := Lib.hid (show [x0, x1, x2, x3] = wordT (expTo key.data.toList k).1 k (expTo key.data.toList k).2 by unfold wordT; rw [if_neg hm, ← X0.out, ← X1.out, ← X2.out, ← X3.out]; rfl)
          go_wp2_with (first
            | ((with_reducible refine wpList_load_met 415 (.tmp 25) b3 (q * 4) (bytesV [x0, x1, x2, x3]) _ (some 26) HR.out Tryz.underlying415 rfl (size4b rfl) ?hg ?ho ?hds ?hx ?_); (case ho | hg | hds | hx => rfl))
            | ((with_reducible refine wpList_alloc_new 415 _ zero4 (some 7) ?hgd ?ho ?hd ?_); (case hgd | ho | hd => rfl); (intro b7 wa la Ba ea za))
            | ((with_reducible refine wpList_store_new 415 (.tmp 7) (.tmp 26) b7 (bytesV (List.replicate 4 0)) (bytesV [x0, x1, x2, x3]) 415 Ba hz4 (size4b rfl) (bytesV_one _) ?hgd ?ho ?hx ?hy ?_); (case hgd | ho | hx | hy => rfl); (intro wb Bb ob))
            | fail)
          have hbb : Below wr.heap.size wr wb := ob.below (ea.mono la) la
          have HN7 := Lib.hid (show b4 < b7 from Nat.lt_of_lt_of_le HI.out.box.lt la)
          have HZ := Lib.hid (HI.out.next hbb)
          have HB7 := Lib.hid Bb
          have HTL := Lib.hid (show [x0, x1, x2, x3].length = 4 from rfl)
          clear Ba ea za la Bb ob hbb

          have hd44 : decide (((k : Nat) : Int) < 44) = true := decide_eq_true (by omega)
          go_loopw [51] (fun i wq => ∃ r : Nat, r ≤ 4 ∧ i = .int .i64 r ∧ ExpAt w wq b2 b3 b4 (expR key.data.toList k (wordF key.data.toList k) r) ∧ Blk wq b7 (bytesV [x0, x1, x2, x3]) 415) (fun i _ => 4 - (intOf i).toNat)
          case atStart => exact ⟨0, by omega, rfl, by rw [expR_zero]; exact HZ.out, HB7.out⟩
          case round =>
            obtain ⟨r, hr, rfl, hJ, hT⟩ := hrel
            have HJ := Lib.hid hJ
            have HT := Lib.hid hT
            clear hJ hT
            by_cases hlt4 : r < 4
            · have HRL := Lib.hid (show (expR key.data.toList k (wordF key.data.toList k) r).length = 176 from expR_length _ _ _ _ (by omega))
              have ca := bytes_cell HJ.out.ws (p * 4 + r) (by rw [HRL.out]; have := hpq.out; omega)
              rw [expR_old _ _ _ _ _ (by have := hpq.out; omega)] at ca
              have cb := bytes_cell HT.out r (by rw [HTL.out]; exact hlt4)
              have cc := bytes_cell HJ.out.ws (k * 4 + r) (by rw [HRL.out]; omega)
              have cf := HJ.out.ws.free (k * 4 + r)
              have HSS := Lib.hid (expR_set key.data.toList k (wordF key.data.toList k) r (by omega))
              have HWF := Lib.hid (fun (j : Nat) (hj : j = p * 4 + r) => (show (expTo key.data.toList k).1.getD j 0 ^^^ [x0, x1, x2, x3].getD r 0 = wordF key.data.toList k r by rw [hj, HTW.out]; unfold wordF; rw [show k - 4 = p by have := hpq.out; omega, show 4 * p + r = p * 4 + r by omega]))
              have i0 : IntKind.i64.wrap 0 = 0 := by decide +kernel
              have i1 : IntKind.i64.wrap 1 = 1 := by decide +kernel
              have i2 : IntKind.i64.wrap 2 = 2 := by decide +kernel
              have i3 : IntKind.i64.wrap 3 = 3 := by decide +kernel
              have i4 : IntKind.i64.wrap 4 = 4 := by decide +kernel
              have n4 : IntKind.i64.wrap (((k : Nat) : Int) - 4) = (p : Int) := by rw [IntWalk.i64_in _ (by have := hpq.out; omega)]; have := hpq.out; omega
              have p44 : (p : Int) < 44 := by have := hpq.out; omega
              have k44 : ((k : Nat) : Int) < 44 := by omega
              obtain ⟨r1, hr1⟩ : ∃ r1, Hid (r1 = r + 1) := ⟨_, (rfl : r + 1 = r + 1)⟩
              have hcase : r = 0 ∨ r = 1 ∨ r = 2 ∨ r = 3 := by omega
              rcases hcase with rfl | rfl | rfl | rfl
              all_goals
                (try simp only [Nat.add_zero] at ca cc cf)
                go_wp2_with fail
                refine wp_region_still_tail_drew 14 (by kernel_rfl) (by kernel_rfl) ?_
                simp only [List.take_succ_cons, List.take_zero, List.drop_succ_cons, List.drop_zero]
                iterate 14 still_step
                refine wpStill_nil ?_
                go_wp2_with fail
                go_roundw
                case rel => exact ⟨r1, by have := hr1.out; omega, by rw [hr1.out]; rfl, by
                  rw [hr1.out, ← HSS.out, Nat.mul_comm 4 k]
                  exact ((HJ.out.set HN4.out HL3.out _ _).at_val (bits_xor (HWF.out _ rfl))).drew, (HT.out.set_other (a := ⟨b3, _, none⟩) (by have := HN7.out; have := HN4.out; show b7 ≠ b3; omega) _).drew⟩
                case measure => simp [intOf]
            · obtain rfl : r = 4 := by omega
              go_wp2_with fail
              go_roundw
              case rel => exact ⟨k1, by have := hk1.out; omega, by rw [hk1.out]; go_num, by rw [hk1.out, HPH.out], by rw [hk1.out, ← HHI.out]; exact HJ.out⟩
              case measure => simp [intOf]; omega
    · obtain rfl : k = 44 := by omega
      have hle : (bytesV (expL key.data.toList)).length = (bytesV (List.replicate 176 0)).length := by rw [bytesV_length, bytesV_length, expL_length, List.length_replicate]
      have HWW := Lib.hid (show Blk wr b3 (bytesV (expL key.data.toList)) 417 from by rw [← expM_all]; exact HI.out.ws)
      go_wp2_with (first
        | ((with_reducible refine wpList_load_blk 417 (.tmp 3) b3 (bytesV (expL key.data.toList)) 417 _ HWW.out Tryz.underlying417 rfl (size176 (expL_length _)) ?hgd ?ho ?hx ?_); (case hgd | ho | hx => rfl))
        | ((with_reducible refine wpList_store_new 417 (.tmp 2) (.tmp 70) b2 (bytesV (List.replicate 176 0)) (bytesV (expL key.data.toList)) 417 HI.out.out hle (size176 (expL_length _)) (bytesV_one _) ?hgd ?ho ?hx ?hy ?_); (case hgd | ho | hx | hy => rfl); (intro w9 B9 o9))
        | fail)
      (try simp only [Exit.inBlock, Exit.then]); refine bodyPost_ret (results_cell1v rfl _ _ B9.range rfl Tryz.underlying417 rfl (size176 (expL_length _))) rfl ⟨rfl, o9.below HI.out.below HL2.out⟩
end Go.Proofs.YtppdboadjefieaaGreat

namespace Go.Proofs.YtppdboadjefieaaGreat
open Go Go.RowKit
set_option maxRecDepth 100000

def cipherCells (W : List UInt8) : List Value := .bool true :: (bytesV W ++ bytesV boxL)
structure CipherAt (w : World) (cb vb : Nat) (W : List UInt8) : Prop where
  blk : Blk w cb (cipherCells W) 422
  var : Blk w vb [.pointer (some ⟨cb, 0, none⟩)] 363
theorem CipherAt.turned {w w' : World} {cb vb : Nat} {W : List UInt8} {S : List Nat} (h : CipherAt w cb vb W) (t : Turned S w w') (h1 : cb ∉ S) (h2 : vb ∉ S) : CipherAt w' cb vb W := ⟨t.blk h.blk h1, t.blk h.var h2⟩
theorem CipherAt.drew {w : World} {cb vb : Nat} {W : List UInt8} (h : CipherAt w cb vb W) : CipherAt w.drew cb vb W := ⟨h.blk.drew, h.var.drew⟩
theorem cipher_box {W : List UInt8} (hw : W.length = 176) (b : UInt8) : (cipherCells W)[177 + b.toNat]? = some (.int .u8 (((boxB b).toNat : Nat) : Int)) := by
  have hb := b.toNat_lt
  have hb2 : b.toNat < boxL.length := by rw [boxL_length]; simpa using hb
  unfold cipherCells
  rw [show 177 + b.toNat = (176 + b.toNat) + 1 by omega, List.getElem?_cons_succ, List.getElem?_append_right (by rw [bytesV_length, hw]; omega), bytesV_length, hw, show 176 + b.toNat - 176 = b.toNat by omega, bytesV_at _ _ hb2]
  unfold boxB
  rw [List.getD, List.getElem?_eq_getElem hb2]
  rfl
theorem enc1_walk (b : UInt8) (cb vb : Nat) (W : List UInt8) (w : World) (h : CipherAt w cb vb W) (hw : W.length = 176) :
    Calls Tryz.prog 372 #[.int .u8 ((b.toNat : Nat) : Int), .pointer (some ⟨vb, 0, none⟩)] w fun e w' => e = .returned (.int .u8 (((boxB b).toNat : Nat) : Int)) ∧ w = w' := by
  have c0 := h.var.cell (i := 0) rfl
  have c1 := h.blk.cell (cipher_box hw b)
  have hb := b.toNat_lt
  have hb2 : b.toNat < 256 := by simpa using hb
  have hb3 : ((b.toNat : Nat) : Int) < 256 := by omega
  go_enter Tryz.func372, Tryz.ntmps372
  go_wp2_with fail
  go_ret
  exact ⟨rfl, rfl⟩
theorem eachL_eq (x : List UInt8) (hl : x.length = 16) : stepTo (fun i => boxB (x.getD i 0)) x 16 = eachL x := by
  rw [stepTo_all _ _ _ hl]; rfl
set_option maxHeartbeats 4000000 in
theorem aesEach_walk (xb cb vb : Nat) (x W : List UInt8) (w : World) (h : Blk w xb (bytesV x) 424) (hl : x.length = 16) (hc : CipherAt w cb vb W) (hw : W.length = 176) (hn1 : cb ≠ xb) (hn2 : vb ≠ xb) :
    Calls Tryz.prog 371 #[.pointer (some ⟨xb, 0, none⟩), .func (.func 372) #[] #[.pointer (some ⟨vb, 0, none⟩)]] w fun e w' => e = .returned (.tuple #[]) ∧ Blk w' xb (bytesV (eachL x)) 424 ∧ Turned [xb] w w' := by
  have HX := Lib.hid h
  have HL := Lib.hid hl
  have HC := Lib.hid hc
  have HW := Lib.hid hw
  have HN := Lib.hid (And.intro hn1 hn2)
  clear h hl hc hw hn1 hn2
  go_enter Tryz.func371, Tryz.ntmps371
  go_wp2_with fail
  go_loopw [7] (fun i wr => ∃ k : Nat, k ≤ 16 ∧ i = .int .i64 k ∧ Blk wr xb (bytesV (stepTo (fun i => boxB (x.getD i 0)) x k)) 424 ∧ Turned [xb] w wr) (fun i _ => 16 - (intOf i).toNat)
  case atStart => exact ⟨0, by omega, rfl, by rw [stepTo_zero]; exact HX.out, Turned.refl _ _⟩
  case round =>
    obtain ⟨k, hk, rfl, hB, ht⟩ := hrel
    have HB := Lib.hid hB
    have HT := Lib.hid ht
    have HCr := Lib.hid (HC.out.turned ht (by simp; exact HN.out.1) (by simp; exact HN.out.2))
    clear hB ht
    by_cases hlt : k < 16
    · have hlt' : ((k : Nat) : Int) < 16 := by omega
      have HK := Lib.hid (show (stepTo (fun i => boxB (x.getD i 0)) x k).length = 16 from by rw [stepTo_length _ _ _ (by rw [HL.out]; exact hk)]; exact HL.out)
      have hc := bytes_cell HB.out k (by rw [HK.out]; exact hlt)
      have hat : (stepTo (fun i => boxB (x.getD i 0)) x k).getD k 0 = x.getD k 0 := by rw [List.getD, List.getD, stepTo_at _ _ _ _ (Nat.le_refl _) (by rw [HL.out]; exact hk)]
      rw [hat] at hc
      clear hat
      have hf := HB.out.free k
      have HSS := Lib.hid (stepTo_set (fun i => boxB (x.getD i 0)) x k (by rw [HL.out]; exact hlt))
      obtain ⟨b, hb⟩ : ∃ b, x.getD k 0 = b := ⟨_, rfl⟩
      rw [hb] at hc
      have HBB := Lib.hid hb
      clear hb
      go_wp2_with fail
      refine wp_region_still_drew (by kernel_rfl) (by kernel_rfl) ?_
      iterate 6 still_step
      refine wpStill_nil ?_
      go_wp2_with fail
      refine wp_region_still_tail_drew 7 (by kernel_rfl) (by kernel_rfl) ?_
      simp only [List.take_succ_cons, List.take_zero, List.drop_succ_cons, List.drop_zero]
      iterate 4 still_step
      still_call (still_of (enc1_walk b cb vb W _ HCr.out.drew.drew HW.out))
      repeat still_step
      refine wpStill_nil ?_
      go_wp2_with fail
      go_roundw
      case rel => exact ⟨k + 1, by omega, by go_num, by rw [← HSS.out, ← bytesV_set, HBB.out]; exact (HB.out.set _ _).drew.drew, (HT.out.setCell (b := xb) (.inl (by simp)) _ _).drew.drew⟩
      case measure => simp [intOf]; omega
    · obtain rfl : k = 16 := by omega
      go_wp2_with fail
      go_end0
      exact ⟨rfl, by rw [← eachL_eq x HL.out]; exact HB.out, HT.out⟩
end Go.Proofs.YtppdboadjefieaaGreat

namespace Go.Proofs.YtppdboadjefieaaGreat
open Go Go.RowKit
set_option maxRecDepth 100000

theorem fill_fold (cs : List Value) : ∀ (l : List Value) (off j : Nat), off + j + cs.length ≤ l.length → ((cs.zipIdx j).foldl (fun (a : Array Value) (x : Value × Nat) => a.setIfInBounds (off + x.2) x.1) l.toArray) = (l.take (off + j) ++ cs ++ l.drop (off + j + cs.length)).toArray := by
  induction cs with
  | nil => intro l off j h; simp
  | cons c r ih =>
    intro l off j h
    simp only [List.length_cons] at h
    rw [List.zipIdx_cons, List.foldl_cons, List.setIfInBounds_toArray]
    have := ih (l.set (off + j) c) off (j + 1) (by rw [List.length_set]; omega)
    rw [this]
    congr 1
    have e1 : (l.set (off + j) c).take (off + (j + 1)) = l.take (off + j) ++ [c] := by
      rw [show off + (j + 1) = (off + j) + 1 by omega, List.take_set, List.take_succ_eq_append_getElem (by omega), List.set_append_right _ _ (by simp; omega)]
      simp [Nat.min_eq_left (by omega : off + j ≤ l.length)]
    rw [e1, List.drop_set_of_lt (by omega)]
    simp [Nat.add_assoc, Nat.add_comm 1]
theorem fill_one {place : Nat → Option (Nat × Nat)} {l : List Value} {i off size : Nat} {v : Value} {cs : List Value} {rest : List (Nat × Value)} (hp : place i = some (off, size)) (hv : v.cells = cs.toArray) (hs : cs.length = size) (hl : off + size ≤ l.length) :
    Instr.fill place l.toArray ((i, v) :: rest) = Instr.fill place (l.take off ++ cs ++ l.drop (off + size)).toArray rest := by
  have hf := fill_fold cs l off 0 (by omega)
  rw [Nat.add_zero, hs] at hf
  simp only [Instr.fill, hp, hv, List.size_toArray, hs]
  rw [if_neg (by simp; omega), ← hf]
  simp
def cipher0 : List Value := .bool false :: List.replicate 432 (.int .u8 0)
theorem built_cipher_at (parts : List (Nat × Value)) : Tryz.prog.built 422 parts = Instr.fill (fun i => (#[(0, 1), (1, 176), (177, 256)] : Array (Nat × Nat))[i]?) cipher0.toArray parts := by kernel_rfl
theorem builtCipher (W : List UInt8) (hW : W.length = 176) : Tryz.prog.built 422 [(0, .bool true), (1, .agg (bytesV W).toArray), (2, .agg (bytesV boxL).toArray)] = some (cipherCells W).toArray := by
  have h0 : cipher0.length = 433 := by simp [cipher0]
  rw [built_cipher_at, fill_one (cs := [.bool true]) (off := 0) (size := 1) rfl rfl rfl (by rw [h0]; decide),
    fill_one (cs := bytesV W) (off := 1) (size := 176) rfl rfl (by rw [bytesV_length, hW]) (by simp [h0]),
    fill_one (cs := bytesV boxL) (off := 177) (size := 256) rfl rfl (by rw [bytesV_length, boxL_length]) (by simp [h0, bytesV_length, hW])]
  simp only [Instr.fill]
  congr 2
  unfold cipherCells
  have e : ([.bool true] ++ bytesV W : List Value).length = 177 := by simp [bytesV_length, hW]
  simp only [List.take_zero, List.nil_append]
  have hw : (bytesV W).length = 176 := by rw [bytesV_length, hW]
  have e1 : List.take 1 ([Value.bool true] ++ List.drop (0 + 1) cipher0) = [Value.bool true] := rfl
  rw [e1, List.take_left' e, List.drop_of_length_le (by simp [hw, h0])]
  simp
theorem cipher_words {w : World} {cb : Nat} {W : List UInt8} {t : TypeId} (h : Blk w cb (cipherCells W) t) : w.rangeAt cb 1 (bytesV W) := by
  intro j v hv
  refine h.cell ?_
  unfold cipherCells
  rw [show 1 + j = j + 1 by omega, List.getElem?_cons_succ, List.getElem?_append_left (by have := (List.getElem?_eq_some_iff.1 hv).1; exact this)]
  exact hv
set_option maxHeartbeats 1000000 in
theorem aesNew_walk (key : ByteArray) (w : World) (hk : key.size = 16) :
    Calls Tryz.prog 302 #[.string key] w fun e w' => (∃ cb, e = .returned (.tuple #[.pointer (some ⟨cb, 0, none⟩), .int .i64 0]) ∧ Blk w' cb (cipherCells (expL key.data.toList)) 422 ∧ w.heap.size ≤ cb) ∧ Below w.heap.size w w' := by
  have hks : (key.size : Int) = 16 := by omega
  have HK := Lib.hid hk
  obtain ⟨W, HW⟩ : ∃ W, Hid (expL key.data.toList = W) := ⟨_, rfl⟩
  have HWL := Lib.hid (show W.length = 176 by rw [← HW.out]; exact expL_length _)
  clear hk
  go_enter Tryz.func302, Tryz.ntmps302
  go_wp2_with fail
  refine (expand_walk key _ HK.out).mono ?_
  rintro e w1 ⟨rfl, hb1⟩
  rw [HW.out]
  have HBE1 := Lib.hid hb1
  clear hb1
  go_wp2_with fail
  refine (boxes_walk _).mono ?_
  rintro e w2 ⟨rfl, hb2⟩
  have HBE2 := Lib.hid (HBE1.out.trans (hb2.mono HBE1.out.size))
  clear hb2
  go_wp2_with (first
    | ((with_reducible refine wpList_build_eq 422 ?parts10 (cipherCells W) ?hg ?ho ?hf ?_); (case hg | ho => rfl); (case hf => (refine Eq.trans ?_ (builtCipher W HWL.out); kernel_rfl)))
    | ((with_reducible refine wpList_box_new 422 (.tmp 10) (cipherCells W) (some 11) ?hgd ?ho ?hd ?hx ?_); (case hgd | ho | hd | hx => rfl); (intro b3 w3 l3 B3 e3 z3))
    | fail)
  go_ret2
  exact ⟨⟨b3, rfl, by rw [HW.out]; exact B3, Nat.le_trans HBE2.out.size l3⟩, HBE2.out.trans ((e3.mono l3).mono HBE2.out.size)⟩
end Go.Proofs.YtppdboadjefieaaGreat

namespace Go.Proofs.YtppdboadjefieaaGreat
open Go Go.RowKit
set_option maxRecDepth 100000

set_option maxHeartbeats 4000000 in
theorem encrypt_walk (cb : Nat) (W : List UInt8) (s : ByteArray) (w : World) (h : Blk w cb (cipherCells W) 422) (hw : W.length = 176) (hs : s.size = 16) :
    Calls Tryz.prog 303 #[.pointer (some ⟨cb, 0, none⟩), .string s] w fun e w' => (∃ r, e = .returned (.tuple #[.string r, .int .i64 0]) ∧ Txt r (encTo W s.data.toList 10)) ∧ Below w.heap.size w w' := by
  have hmf : ∀ (fn : Fn) (first cap : Array Value) (w : World), (Instr.makeFunc fn first cap).run Tryz.prog w = .ok (.func fn first cap) w := fun _ _ _ _ => rfl
  have hsi : (s.size : Int) = 16 := by omega
  have HCB := Lib.hid h
  have HWL := Lib.hid hw
  have HS := Lib.hid hs
  have HSL := Lib.hid (show s.data.toList.length = 16 from hs)
  have k0 : w.cell? ⟨cb, 0, none⟩ = some (.bool true) := h.cell (i := 0) rfl
  clear h hw hs
  go_enter Tryz.func303, Tryz.ntmps303
  go_wp2_with (first
    | ((with_reducible refine wpList_box_one 363 (.tmp 0) (.pointer (some ⟨cb, 0, none⟩)) rfl (some 2) ?hgd ?ho ?hd ?hx ?_); (case hgd | ho | hd | hx => rfl); (intro b2 w1 l1 B1 e1 z1; have c1 := B1.cell (i := 0) rfl; have k1 : w1.cell? ⟨cb, 0, none⟩ = some (.bool true) := by rw [(e1.mono l1).cell HCB.out.lt]; exact k0))
    | fail)
  have HL2 := Lib.hid l1
  have HV1 := Lib.hid B1
  have HC1 := Lib.hid (HCB.out.below (e1.mono l1) HCB.out.lt)
  have HBE1 := Lib.hid (e1.mono l1)
  have HN2 := Lib.hid (show cb < b2 from Nat.lt_of_lt_of_le HCB.out.lt l1)
  clear B1 e1 z1 l1 c1 k1 k0
  refine (aesOf_walk s _ HS.out).mono ?_
  rintro e w2 ⟨rfl, hb2⟩
  have HV2 := Lib.hid (HV1.out.below hb2 HV1.out.lt)
  have HC2 := Lib.hid (HC1.out.below hb2 HC1.out.lt)
  have HBE2 := Lib.hid (HBE1.out.trans (hb2.mono HBE1.out.size))
  have hlz : (bytesV s.data.toList).length = (bytesV (List.replicate 16 0)).length := by rw [bytesV_length, bytesV_length, HSL.out, List.length_replicate]
  clear hb2
  go_wp2_with (first
    | ((with_reducible refine wpList_alloc_new 424 _ zero16 (some 6) ?hgd ?ho ?hd ?_); (case hgd | ho | hd => rfl); (intro b6 w3 l3 B3 e3 z3))
    | ((with_reducible refine wpList_store_new 424 (.tmp 6) (.tmp 23) b6 (bytesV (List.replicate 16 0)) (bytesV s.data.toList) 424 B3 hlz (size16 HSL.out) (bytesV_one _) ?hgd ?ho ?hx ?hy ?_); (case hgd | ho | hx | hy => rfl); (intro w4 B4 o4; have hb4 : Below w2.heap.size w2 w4 := o4.below (e3.mono l3) l3; have V4 := HV2.out.below hb4 HV2.out.lt; have C4 := HC2.out.below hb4 HC2.out.lt; have v4 := V4.cell (i := 0) rfl))
    | ((with_reducible refine wpList_load_met 417 (.tmp 26) cb 1 (bytesV W) _ (some 27) (cipher_words C4) Tryz.underlying417 rfl (size176 HWL.out) ?hg ?ho ?hds ?hx ?_); (case ho | hg | hds | hx => rfl))
    | fail)
  have HL6 := Lib.hid (show w.heap.size ≤ b6 from Nat.le_trans HBE2.out.size l3)
  have HN6 := Lib.hid (show cb < b6 ∧ b2 < b6 from ⟨Nat.lt_of_lt_of_le HC2.out.lt l3, Nat.lt_of_lt_of_le HV2.out.lt l3⟩)
  have HX4 := Lib.hid B4
  have HA4 := Lib.hid (show CipherAt w4 cb b2 W from ⟨C4, V4⟩)
  have HBE4 := Lib.hid (HBE2.out.trans (hb4.mono HBE2.out.size))
  clear B3 B4 e3 o4 l3 z3 hb4 V4 C4 v4 hlz
  refine (aesAdd_walk b6 0 s.data.toList W _ HX4.out HSL.out HWL.out (by decide)).mono ?_
  rintro e w5 ⟨rfl, hX5, ht5⟩
  have HX5 := Lib.hid (show Blk w5 b6 (bytesV (encTo W s.data.toList 0)) 424 from hX5)
  have HA5 := Lib.hid (HA4.out.turned ht5 (by have := HN6.out; simp; omega) (by have := HN6.out; simp; omega))
  have HBE5 := Lib.hid (ht5.below HBE4.out (fun x hx => by simp at hx; subst hx; exact HL6.out) HBE4.out.size)
  clear hX5 ht5
  go_wp2_with fail
  go_loopw [7] (fun i wr => ∃ r : Nat, r ≤ 10 ∧ i = .int .i64 ((r + 1 : Nat) : Int) ∧ Blk wr b6 (bytesV (encTo W s.data.toList r)) 424 ∧ CipherAt wr cb b2 W ∧ Below w.heap.size w wr) (fun i _ => 11 - (intOf i).toNat)
  case atStart => exact ⟨0, by omega, rfl, HX5.out, HA5.out, HBE5.out⟩
  case round =>
    clear HX5 HA5 HBE5
    obtain ⟨r, hr, rfl, hX, hA, hbe⟩ := hrel
    have HX := Lib.hid hX
    have HA := Lib.hid hA
    have HBE := Lib.hid hbe
    clear hX hA hbe
    obtain ⟨n, HNr⟩ : ∃ n, Hid (n = r + 1) := ⟨_, (rfl : r + 1 = r + 1)⟩
    rw [← HNr.out]
    have HXL := Lib.hid (encTo_length W s.data.toList r)
    by_cases hlt : r < 10
    · have hn1 : (n : Int) ≤ 10 := by have := HNr.out; omega
      have HES := Lib.hid (show encTo W s.data.toList n = addL (if n < 10 then mixL (turnL (eachL (encTo W s.data.toList r))) [2, 3, 1, 1] else turnL (eachL (encTo W s.data.toList r))) W n by rw [HNr.out]; rfl)
      go_wp2_with fail
      refine (aesEach_walk b6 cb b2 _ W _ HX.out HXL.out HA.out HWL.out (by have := HN6.out; omega) (by have := HN6.out; omega)).mono ?_
      rintro e wa ⟨rfl, hXa, hta⟩
      have HXa := Lib.hid hXa
      have HAa := Lib.hid (HA.out.turned hta (by have := HN6.out; simp; omega) (by have := HN6.out; simp; omega))
      have HBEa := Lib.hid (hta.below HBE.out (fun x hx => by simp at hx; subst hx; exact HL6.out) HBE.out.size)
      clear hXa hta
      go_wp2_with fail
      refine (aesTurn_walk b6 _ _ HXa.out (eachL_length _)).mono ?_
      rintro e wb ⟨rfl, hXb, htb⟩
      have HXb := Lib.hid hXb
      have HAb := Lib.hid (HAa.out.turned htb (by have := HN6.out; simp; omega) (by have := HN6.out; simp; omega))
      have HBEb := Lib.hid (htb.below HBEa.out (fun x hx => by simp at hx; subst hx; exact HL6.out) HBEa.out.size)
      clear hXb htb
      by_cases h10 : n < 10
      · have h10' : (n : Int) < 10 := by omega
        go_wp2_with fail
        refine (aesMix_walk b6 _ [2, 3, 1, 1] _ HXb.out (turnL_length _) rfl).mono ?_
        rintro e wc ⟨rfl, hXc, htc⟩
        have HXc := Lib.hid hXc
        have HAc := Lib.hid (HAb.out.turned htc (by have := HN6.out; simp; omega) (by have := HN6.out; simp; omega))
        have HBEc := Lib.hid (htc.below HBEb.out (fun x hx => by simp at hx; subst hx; exact HL6.out) HBEb.out.size)
        have v0 := HAc.out.var.cell (i := 0) rfl
        clear hXc htc
        go_wp2_with (first
          | ((with_reducible refine wpList_load_met 417 (.tmp 42) cb 1 (bytesV W) _ (some 43) (cipher_words HAc.out.blk) Tryz.underlying417 rfl (size176 HWL.out) ?hg ?ho ?hds ?hx ?_); (case ho | hg | hds | hx => rfl))
          | fail)
        clear v0
        refine (aesAdd_walk b6 n _ W _ HXc.out (mixL_length _ _) HWL.out (by omega)).mono ?_
        rintro e wd ⟨rfl, hXd, htd⟩
        have HXd := Lib.hid (show Blk wd b6 (bytesV (encTo W s.data.toList n)) 424 from by rw [HES.out, if_pos h10]; exact hXd)
        have HAd := Lib.hid (HAc.out.turned htd (by have := HN6.out; simp; omega) (by have := HN6.out; simp; omega))
        have HBEd := Lib.hid (htd.below HBEc.out (fun x hx => by simp at hx; subst hx; exact HL6.out) HBEc.out.size)
        clear hXd htd
        go_wp2_with fail
        go_roundw
        case rel => exact ⟨n, by omega, by go_num, HXd.out, HAd.out, HBEd.out⟩
        case measure => simp [intOf]; omega
      · have h10' : ¬ (n : Int) < 10 := by omega
        have h10'' : (10 : Int) ≤ (n : Int) := by omega
        have v0 := HAb.out.var.cell (i := 0) rfl
        go_wp2_with (first
          | ((with_reducible refine wpList_load_met 417 (.tmp 42) cb 1 (bytesV W) _ (some 43) (cipher_words HAb.out.blk) Tryz.underlying417 rfl (size176 HWL.out) ?hg ?ho ?hds ?hx ?_); (case ho | hg | hds | hx => rfl))
          | fail)
        clear v0
        refine (aesAdd_walk b6 n _ W _ HXb.out (turnL_length _) HWL.out (by have := HNr.out; omega)).mono ?_
        rintro e wd ⟨rfl, hXd, htd⟩
        have HXd := Lib.hid (show Blk wd b6 (bytesV (encTo W s.data.toList n)) 424 from by rw [HES.out, if_neg h10]; exact hXd)
        have HAd := Lib.hid (HAb.out.turned htd (by have := HN6.out; simp; omega) (by have := HN6.out; simp; omega))
        have HBEd := Lib.hid (htd.below HBEb.out (fun x hx => by simp at hx; subst hx; exact HL6.out) HBEb.out.size)
        clear hXd htd
        go_wp2_with fail
        go_roundw
        case rel => exact ⟨n, by have := HNr.out; omega, by go_num, HXd.out, HAd.out, HBEd.out⟩
        case measure => simp [intOf]; omega
    · obtain rfl : r = 10 := by omega
      obtain rfl := HNr.out
      go_wp2_with (first
        | ((with_reducible refine wpList_string_bytes 121 9 5 (.tmp 46) (encTo W s.data.toList 10) b6 0 16 16 (some 47) Tryz.underlying121 Tryz.underlying5 Tryz.underlying9 HX.out.range HXL.out.symm ?hgd ?ho ?hd ?hx ?_); (case hgd | ho | hd | hx => rfl))
        | fail)
      go_ret2
      exact ⟨⟨_, rfl, Txt.mk _⟩, HBE.out⟩
end Go.Proofs.YtppdboadjefieaaGreat

namespace Go.Proofs.YtppdboadjefieaaGreat
open Go Go.RowKit

def BldK (w : World) (b : Nat) (l : List UInt8) : Prop := Lib.IsBuilderF 198 5 b b (Lib.byteCells l) w
theorem BldK.of {w : World} {b : Nat} {l : List UInt8} (h : Bld w b l) : BldK w b l := Lib.IsBuilderF.of h
theorem kept_blk {w w' : World} {b c : Nat} {cs : List Value} {t : TypeId} (k : Lib.OthersKept 5 (some b) w w') (h : Blk w c cs t) (hn : c ≠ b) (ht : t ≠ 5) : Blk w' c cs t :=
  k c _ h (by intro e; injection e with e; exact hn e) (by intro c' fz e; injection e with _ e2 _; exact ht e2)
theorem bldk_writeString (b : Nat) (l : List UInt8) (s : ByteArray) (w : World) (h : BldK w b l) (hl : l.length + s.size ≤ 140737488355328) (hb : b ≤ w.heap.size) :
    Calls Tryz.prog 117 #[.pointer (some ⟨b, 0, none⟩), .string s] w fun e w' => e = .returned (.tuple #[.int .i64 s.size, .nilIface]) ∧ BldK w' b (l ++ s.data.toList) ∧ Below b w w' ∧ Lib.OthersKept 5 (some b) w w' := by
  refine (Any.Builder_WriteString_k lays166 extra1 b b _ s w h (by rw [Lib.byteCells_length]; exact hl) hb).mono ?_
  rintro e w' ⟨rfl, hb, hbel, hk⟩
  refine ⟨rfl, ?_, hbel, hk⟩
  unfold BldK
  rw [byteCells_append]
  exact .inr hb
theorem builderAtF_below {T e : TypeId} {B b : Nat} {p : Value} {bs : List Value} {w w' : World} (h : Lib.BuilderAtF T e B b p bs w) (hb : Below w.heap.size w w') : Lib.BuilderAtF T e B b p bs w' := by
  obtain ⟨hB, v, hv, hown, hne⟩ := h
  have hlt : b < w.heap.size := (Array.getElem?_eq_some_iff.1 hv).1
  refine ⟨hB, v, by rw [hb.block b hlt, hv], ?_, hne⟩
  refine ⟨hown.1, ?_⟩
  rcases hown.2 with hn | ⟨g, cap, cur, fz, rfl, hg, hgg, rest⟩
  · exact .inl hn
  · refine .inr ⟨g, cap, cur, fz, rfl, hg, ?_, rest⟩
    rw [hb.block g (Array.getElem?_eq_some_iff.1 hgg).1]
    exact hgg
theorem BldK.below {w w' : World} {b : Nat} {l : List UInt8} (h : BldK w b l) (hb : Below w.heap.size w w') : BldK w' b l :=
  h.imp (fun h => builderAtF_below h hb) (fun h => builderAtF_below h hb)
theorem bldk_string (b : Nat) (l : List UInt8) (w : World) (h : BldK w b l) (hb : b ≤ w.heap.size) :
    Calls Tryz.prog 119 #[.pointer (some ⟨b, 0, none⟩)] w fun e w' => e = .returned (.string ⟨l.toArray⟩) ∧ Below b w w' :=
  (Tryz.Builder_String_any_f b b l w h hb).mono fun e w' h => ⟨h.1, h.2.2⟩
end Go.Proofs.YtppdboadjefieaaGreat

