/- Walk of the documents' step (chapter 02): what a block does to the state. -/
import Derived.Test.YtacoibiafpdoaaaRef3
namespace Go.Proofs.Ytacoibiafpdoaaa
open Go Go.RowKit
set_option linter.unusedVariables false

def rwcells (blk : List UInt8) (k : Nat) : List Value := nums64 (wordsTo blk k ++ List.replicate (64 - k) 0)
theorem rwcells_length (blk : List UInt8) (k : Nat) (hk : k ≤ 64) : (rwcells blk k).length = 64 := by simp [rwcells, nums64, wordsTo_length]; omega
theorem rwcells_at (blk : List UInt8) (k i : Nat) (hi : i < k) : (rwcells blk k)[i]? = some (.int .i64 (((wordsTo blk k).getD i 0 : Nat) : Int)) := by
  have hl := wordsTo_length blk k
  simp [rwcells, nums64, List.getElem?_append, hl, hi]
theorem rwcells_zat (blk : List UInt8) (k : Nat) (hk : k < 64) : (rwcells blk k)[k]? = some (.int .i64 0) := by
  have hl := wordsTo_length blk k
  unfold rwcells nums64
  rw [show List.replicate (64 - k) 0 = 0 :: List.replicate (64 - (k + 1)) 0 by rw [← List.replicate_succ]; congr 1; omega]
  simp [hl]
theorem rwcells_set (blk : List UInt8) (k : Nat) (hk : k < 64) : (rwcells blk k).set k (.int .i64 ((nextWord blk (wordsTo blk k) : Nat) : Int)) = rwcells blk (k + 1) := by
  have hl := wordsTo_length blk k
  unfold rwcells nums64
  rw [show List.replicate (64 - k) 0 = 0 :: List.replicate (64 - (k + 1)) 0 by rw [← List.replicate_succ]; congr 1; omega]
  simp only [wordsTo, List.map_append, List.map_cons, List.map_nil, List.append_assoc]
  rw [List.set_append_right _ _ (by simp [hl])]
  simp [hl]
theorem rwcells_zero (blk : List UInt8) : rwcells blk 0 = zeros64 64 := by simp [rwcells, nums64, wordsTo, zeros64]
theorem rwcells_end (blk : List UInt8) : rwcells blk 64 = nums64 (wordsTo blk 64) := by simp [rwcells]

theorem be32_four (l : List UInt8) (k : Nat) : be32 ((l.take (4 * k + 4)).drop (4 * k)) 0 = be32 l k := by
  simp [be32, List.getElem?_drop]

theorem rsg0_num (x : Nat) (hx : x < 4294967296) : bits BinOp.xor IntKind.i64 (bits BinOp.xor IntKind.i64 ((rotr x 7 : Nat) : Int) ((rotr x 18 : Nat) : Int)) (wrap64 ((x : Int) / 8)) = ((sg0 x : Nat) : Int) := by
  have h1 := rotr_lt x 7
  have h2 := rotr_lt x 18
  have h3 := xor_lt32 h1 h2
  have e : wrap64 ((x : Int) / 8) = ((x / 8 : Nat) : Int) := by rw [IntWalk.wrap64_in _ (by omega)]; simp
  rw [e, i64_xor_nat _ _ (by omega) (by omega), i64_xor_nat _ _ (by omega) (by omega)]; rfl
theorem rsg1_num (x : Nat) (hx : x < 4294967296) : bits BinOp.xor IntKind.i64 (bits BinOp.xor IntKind.i64 ((rotr x 17 : Nat) : Int) ((rotr x 19 : Nat) : Int)) (wrap64 ((x : Int) / 1024)) = ((sg1 x : Nat) : Int) := by
  have h1 := rotr_lt x 17
  have h2 := rotr_lt x 19
  have h3 := xor_lt32 h1 h2
  have e : wrap64 ((x : Int) / 1024) = ((x / 1024 : Nat) : Int) := by rw [IntWalk.wrap64_in _ (by omega)]; simp
  rw [e, i64_xor_nat _ _ (by omega) (by omega), i64_xor_nat _ _ (by omega) (by omega)]; rfl

theorem rword_num (a b c d : Nat) (ha : a < 4294967296) (hb : b < 4294967296) (hc : c < 4294967296) (hd : d < 4294967296) :
    (wrap64 (wrap64 (wrap64 ((a : Int) + (b : Int)) + (c : Int)) + (d : Int))).tmod 4294967296 = (((a + b + c + d) % 4294967296 : Nat) : Int) := by
  rw [IntWalk.wrap64_in ((a : Int) + b) (by omega), IntWalk.wrap64_in ((a : Int) + b + c) (by omega), IntWalk.wrap64_in ((a : Int) + b + c + d) (by omega), Int.tmod_eq_emod_of_nonneg (by omega)]
  omega

theorem bg1_num (e : Nat) : bits BinOp.xor IntKind.i64 (bits BinOp.xor IntKind.i64 ((rotr e 6 : Nat) : Int) ((rotr e 11 : Nat) : Int)) ((rotr e 25 : Nat) : Int) = ((bg1 e : Nat) : Int) := by
  have h1 := rotr_lt e 6
  have h2 := rotr_lt e 11
  have h3 := rotr_lt e 25
  have h4 := xor_lt32 h1 h2
  rw [i64_xor_nat _ _ (by omega) (by omega), i64_xor_nat _ _ (by omega) (by omega)]; rfl
theorem bg0_num (e : Nat) : bits BinOp.xor IntKind.i64 (bits BinOp.xor IntKind.i64 ((rotr e 2 : Nat) : Int) ((rotr e 13 : Nat) : Int)) ((rotr e 22 : Nat) : Int) = ((bg0 e : Nat) : Int) := by
  have h1 := rotr_lt e 2
  have h2 := rotr_lt e 13
  have h3 := rotr_lt e 22
  have h4 := xor_lt32 h1 h2
  rw [i64_xor_nat _ _ (by omega) (by omega), i64_xor_nat _ _ (by omega) (by omega)]; rfl
theorem chs_num (e f g : Nat) (he : e < 4294967296) (hf : f < 4294967296) (hg : g < 4294967296) :
    bits BinOp.or IntKind.i64 (bits BinOp.and IntKind.i64 (e : Int) (f : Int)) (bits BinOp.and IntKind.i64 (wrap64 (4294967295 - (e : Int))) (g : Int)) = ((chs e f g : Nat) : Int) := by
  have e1 : wrap64 (4294967295 - (e : Int)) = ((4294967295 - e : Nat) : Int) := by rw [IntWalk.wrap64_in _ (by omega)]; omega
  have h1 := and_lt32 (b := f) he
  have h2 : (4294967295 - e) &&& g < 4294967296 := and_lt32 (by omega)
  rw [e1, i64_and_nat _ _ (by omega) (by omega), i64_and_nat _ _ (by omega) (by omega), i64_or_nat _ _ (by omega) (by omega)]; rfl
theorem rmaj_num (a b c : Nat) (ha : a < 4294967296) (hb : b < 4294967296) (hc : c < 4294967296) :
    bits BinOp.or IntKind.i64 (bits BinOp.or IntKind.i64 (bits BinOp.and IntKind.i64 (a : Int) (b : Int)) (bits BinOp.and IntKind.i64 (a : Int) (c : Int))) (bits BinOp.and IntKind.i64 (b : Int) (c : Int)) = ((maj a b c : Nat) : Int) := by
  have h1 := and_lt32 (b := b) ha
  have h2 := and_lt32 (b := c) ha
  have h3 := and_lt32 (b := c) hb
  have h4 := or_lt32 h1 h2
  rw [i64_and_nat _ _ (by omega) (by omega), i64_and_nat _ _ (by omega) (by omega), i64_and_nat _ _ (by omega) (by omega), i64_or_nat _ _ (by omega) (by omega), i64_or_nat _ _ (by omega) (by omega)]; rfl
theorem rt_num (a b c d e f g h k w : Nat) (he : e < 4294967296) (hf : f < 4294967296) (hg : g < 4294967296) (hh : h < 4294967296) (hk : k < 4294967296) (hw : w < 4294967296) :
    wrap64 (wrap64 (wrap64 (wrap64 ((h : Int) + bits BinOp.xor IntKind.i64 (bits BinOp.xor IntKind.i64 ((rotr e 6 : Nat) : Int) ((rotr e 11 : Nat) : Int)) ((rotr e 25 : Nat) : Int)) +
      bits BinOp.or IntKind.i64 (bits BinOp.and IntKind.i64 (e : Int) (f : Int)) (bits BinOp.and IntKind.i64 (wrap64 (4294967295 - (e : Int))) (g : Int))) + (k : Int)) + (w : Int)) = ((tOf ⟨a, b, c, d, e, f, g, h⟩ k w : Nat) : Int) := by
  have h1 := bg1_lt e
  have h2 := chs_lt (f := f) (g := g) he
  rw [bg1_num, chs_num _ _ _ he hf hg, IntWalk.wrap64_in ((h : Int) + _) (by omega), IntWalk.wrap64_in ((h : Int) + _ + _) (by omega), IntWalk.wrap64_in ((h : Int) + _ + _ + _) (by omega), IntWalk.wrap64_in _ (by omega)]
  simp [tOf]
theorem ru_num (a b c d e f g h : Nat) (ha : a < 4294967296) (hb : b < 4294967296) (hc : c < 4294967296) :
    wrap64 (bits BinOp.xor IntKind.i64 (bits BinOp.xor IntKind.i64 ((rotr a 2 : Nat) : Int) ((rotr a 13 : Nat) : Int)) ((rotr a 22 : Nat) : Int) +
      bits BinOp.or IntKind.i64 (bits BinOp.or IntKind.i64 (bits BinOp.and IntKind.i64 (a : Int) (b : Int)) (bits BinOp.and IntKind.i64 (a : Int) (c : Int))) (bits BinOp.and IntKind.i64 (b : Int) (c : Int))) = ((uOf ⟨a, b, c, d, e, f, g, h⟩ : Nat) : Int) := by
  have h1 := bg0_lt a
  have h2 := maj_lt ha hb (c := c)
  rw [bg0_num, rmaj_num _ _ _ ha hb hc, IntWalk.wrap64_in _ (by omega)]
  simp [uOf]
theorem radd_num (t u : Nat) (ht : t < 1099511627776) (hu : u < 1099511627776) : (wrap64 ((t : Int) + (u : Int))).tmod 4294967296 = (((t + u) % 4294967296 : Nat) : Int) := by
  rw [IntWalk.wrap64_in _ (by omega), Int.tmod_eq_emod_of_nonneg (by omega)]; omega

theorem tOf_lt {s : S8} {k w : Nat} (he : s.e < 4294967296) (hh : s.h < 4294967296) (hk : k < 4294967296) (hw : w < 4294967296) : tOf s k w < 1099511627776 := by
  have h1 := bg1_lt s.e
  have h2 := chs_lt (f := s.f) (g := s.g) he
  unfold tOf; omega
theorem uOf_lt {s : S8} (ha : s.a < 4294967296) (hb : s.b < 4294967296) : uOf s < 1099511627776 := by
  have h1 := bg0_lt s.a
  have h2 := maj_lt ha hb (c := s.c)
  unfold uOf; omega
theorem rmix_all (y x : S8) : nums64 (mix y.l x.l 8) = (y.add x).rcells := by rfl
theorem rmix_set (y x : List Nat) (k : Nat) (hk : k < 8) : (nums64 (mix y x k)).set k (.int .i64 (((y.getD k 0 + x.getD k 0) % 4294967296 : Nat) : Int)) = nums64 (mix y x (k + 1)) := by
  apply List.ext_getElem?
  intro i
  by_cases hi : i < 8
  · rw [List.getElem?_set]
    by_cases e : k = i
    · subst e
      rw [if_pos rfl, if_pos (by simp [nums64_length, mix_length, hi]), nums64_at _ _ (by rw [mix_length]; exact hi), mix_at _ _ _ _ hi, if_pos (by omega)]
    · rw [if_neg e, nums64_at _ _ (by rw [mix_length]; exact hi), nums64_at _ _ (by rw [mix_length]; exact hi), mix_at _ _ _ _ hi, mix_at _ _ _ _ hi]
      by_cases h : i < k
      · rw [if_pos h, if_pos (by omega)]
      · rw [if_neg h, if_neg (by omega)]
  · rw [List.getElem?_eq_none (by simp [nums64_length, mix_length]; omega), List.getElem?_eq_none (by simp [nums64_length, mix_length]; omega)]

/-- What the loop of the sums keeps. -/
structure RInv3 (w0 : World) (s : S8) (b3 b6 b13 : Nat) (y : List Nat) (w : World) : Prop where
  x : Blk w b3 (nums64 s.l) 154
  out : Blk w b6 S8.zero.rcells 154
  y : Blk w b13 (nums64 y) 154
  bel : Below w0.heap.size w0 w
  lo : w0.heap.size ≤ b3 ∧ b3 < b6 ∧ b6 < b13

theorem roundK_lt (k : Nat) : roundK.getD k 0 < 4294967296 := by
  by_cases h : k < 64
  · have : ∀ i, i < 64 → roundK.getD i 0 < 4294967296 := by decide
    exact this k h
  · rw [List.getD_eq_getElem?_getD, List.getElem?_eq_none (by show 64 ≤ k; omega)]; decide

/-- A number of 32 bits: hidden, that no unifier reckons with it. -/
structure Lt32 (n : Nat) : Prop where
  lt : n < 4294967296

/-- What the loop of the words keeps. -/
structure RInv1 (w0 : World) (s : S8) (bl : List UInt8) (b3 b5 b6 b7 : Nat) (k : Nat) (w : World) : Prop where
  x : Blk w b3 s.rcells 154
  ks : Blk w b5 (nums64 roundK) 156
  out : Blk w b6 S8.zero.rcells 154
  ws : Blk w b7 (rwcells bl k) 156
  bel : Below w0.heap.size w0 w
  lo : w0.heap.size ≤ b3 ∧ b3 < b5 ∧ b5 < b6 ∧ b6 < b7
theorem RInv1.drewN {w0 : World} {s : S8} {bl : List UInt8} {b3 b5 b6 b7 k : Nat} {w : World} (h : RInv1 w0 s bl b3 b5 b6 b7 k w) (n : Nat) : RInv1 w0 s bl b3 b5 b6 b7 k (w.drewN n) :=
  ⟨h.x.drewN n, h.ks.drewN n, h.out.drewN n, h.ws.drewN n, Below.drewN h.bel n, h.lo⟩
theorem RInv1.drew {w0 : World} {s : S8} {bl : List UInt8} {b3 b5 b6 b7 k : Nat} {w : World} (h : RInv1 w0 s bl b3 b5 b6 b7 k w) : RInv1 w0 s bl b3 b5 b6 b7 k w.drew :=
  ⟨h.x.drew, h.ks.drew, h.out.drew, h.ws.drew, h.bel.drew, h.lo⟩
theorem RInv1.next {w0 : World} {s : S8} {bl : List UInt8} {b3 b5 b6 b7 k : Nat} {w : World} (h : RInv1 w0 s bl b3 b5 b6 b7 k w) (hk : k < 64) {x : Nat} (hx : x = nextWord bl (wordsTo bl k)) :
    RInv1 w0 s bl b3 b5 b6 b7 (k + 1) (w.setCell ⟨b7, k, none⟩ (.int .i64 ((x : Nat) : Int))) := by
  subst hx
  have hl := h.lo
  exact ⟨h.x.set_other (by show b3 ≠ b7; omega) _, h.ks.set_other (by show b5 ≠ b7; omega) _, h.out.set_other (by show b6 ≠ b7; omega) _, (h.ws.set k _).ext (rwcells_set _ _ hk), h.bel.setCell (by show w0.heap.size ≤ b7; omega) _, hl⟩

/-- What the loop of the rounds keeps. -/
structure RInv2 (w0 : World) (s : S8) (ws : List Nat) (b3 b5 b6 b7 b13 : Nat) (y : S8) (w : World) : Prop where
  x : Blk w b3 s.rcells 154
  ks : Blk w b5 (nums64 roundK) 156
  out : Blk w b6 S8.zero.rcells 154
  ws : Blk w b7 (nums64 ws) 156
  y : Blk w b13 y.rcells 154
  bel : Below w0.heap.size w0 w
  lo : w0.heap.size ≤ b3 ∧ b3 < b5 ∧ b5 < b6 ∧ b6 < b7 ∧ b7 < b13
theorem RInv2.drewN {w0 : World} {s : S8} {ws : List Nat} {b3 b5 b6 b7 b13 : Nat} {y : S8} {w : World} (h : RInv2 w0 s ws b3 b5 b6 b7 b13 y w) (n : Nat) : RInv2 w0 s ws b3 b5 b6 b7 b13 y (w.drewN n) :=
  ⟨h.x.drewN n, h.ks.drewN n, h.out.drewN n, h.ws.drewN n, h.y.drewN n, Below.drewN h.bel n, h.lo⟩

set_option maxRecDepth 100000 in
set_option maxHeartbeats 1000000 in
theorem rstep_walk (s : S8) (hs : s.ok) (blk : ByteArray) (w : World) (h : blk.size = 64) :
    Calls Try.prog 140 #[s.rval, .string blk, .agg (nums64 roundK).toArray] w fun e w' => e = .returned (stp s blk.data.toList).rval ∧ Below w.heap.size w w' := by
  have h0 : blk.size ≤ 64 := by omega
  have h1 : 64 ≤ blk.size := by omega
  clear h
  go_enter Try.func140, Try.ntmps140
  go_wp2_with (first
    | ((with_reducible refine wpList_box_new 154 (.tmp 0) s.rcells (some 3) ?hgd ?ho ?hd ?hx ?_); (case hgd => rfl); (case ho => rfl); (case hd => rfl); (case hx => rfl); (intro b3 w3 l3 B3 e3 z3))
    | ((with_reducible refine wpList_box_new 156 (.tmp 2) (nums64 roundK) (some 5) ?hgd ?ho ?hd ?hx ?_); (case hgd => rfl); (case ho => rfl); (case hd => rfl); (case hx => rfl); (intro b5 w5 l5 B5 e5 z5))
    | ((with_reducible refine wpList_alloc_new 154 S8.zero.rcells rzero8 (some 6) ?hgd ?ho ?hd ?_); (case hgd => rfl); (case ho => rfl); (case hd => rfl); (intro b6 w6 l6 B6 e6 z6))
    | ((with_reducible refine wpList_alloc_new 156 (zeros64 64) rzero64 (some 7) ?hgd ?ho ?hd ?_); (case hgd => rfl); (case ho => rfl); (case hd => rfl); (intro b7 w7 l7 B7 e7 z7)))
  have hI : RInv1 w s blk.data.toList b3 b5 b6 b7 0 w7 := by
    refine ⟨((B3.below e5 (by omega)).below e6 (by omega)).below e7 (by omega), (B5.below e6 (by omega)).below e7 (by omega), B6.below e7 (by omega), B7.ext (rwcells_zero _).symm, ?_, by omega⟩
    exact (((e3.mono l3).trans (e5.mono (by omega))).trans (e6.mono (by omega))).trans (e7.mono (by omega))
  clear B3 B5 B6 B7 e3 e5 e6 e7 z3 z5 z6 z7 l3 l5 l6 l7
  go_loopw [8] (fun i wr => ∃ k : Nat, k ≤ 64 ∧ i = .int .i64 k ∧ RInv1 w s blk.data.toList b3 b5 b6 b7 k wr) (fun i _ => 64 - (intOf i).toNat)
  case atStart => exact ⟨0, by omega, rfl, hI⟩
  case round =>
    clear hI
    obtain ⟨k, hk, rfl, hI⟩ := hrel
    by_cases hlt : k < 64
    · have hlt' : (k : Int) < 64 := by omega
      have hfz := hI.ws.free k
      have hck := hI.ws.cell (rwcells_zat blk.data.toList k hlt)
      by_cases h16 : k < 16
      · have h16' : (k : Int) < 16 := by omega
        have h4 : (4 : Int) * k + 4 ≤ blk.size := by omega
        have h5 : (4 : Int) * k ≤ 4 * k + 4 := by omega
        have h6 : (0 : Int) ≤ 4 * k := by omega
        have h7 : (0 : Int) ≤ 4 * k + 4 := by omega
        have HI := Lib.hid hI; clear hI
        go_wp2_with fail
        refine (rget4_walk _ _ (by simp; omega)).mono ?_
        rintro e w' ⟨rfl, rfl⟩
        rw [extract_toList, be32_four]
        go_wp2_with fail
        go_roundw
        case rel => exact ⟨k + 1, by omega, by go_num, HI.out.next hlt (nextWord_lo _ _ h16).symm⟩
        case measure => simp [intOf]; omega
      · have h16' : (16 : Int) ≤ k := by omega
        obtain ⟨i16, h16'⟩ : ∃ i, i = k - 16 := ⟨_, rfl⟩
        obtain ⟨i15, h15'⟩ : ∃ i, i = k - 15 := ⟨_, rfl⟩
        obtain ⟨i7, h7'⟩ : ∃ i, i = k - 7 := ⟨_, rfl⟩
        obtain ⟨i2, h2'⟩ : ∃ i, i = k - 2 := ⟨_, rfl⟩
        obtain ⟨a16, H16⟩ : ∃ a, Hid (a = (wordsTo blk.data.toList k).getD i16 0) := ⟨_, rfl⟩
        obtain ⟨a15, H15⟩ : ∃ a, Hid (a = (wordsTo blk.data.toList k).getD i15 0) := ⟨_, rfl⟩
        obtain ⟨a7, H7⟩ : ∃ a, Hid (a = (wordsTo blk.data.toList k).getD i7 0) := ⟨_, rfl⟩
        obtain ⟨a2, H2⟩ : ∃ a, Hid (a = (wordsTo blk.data.toList k).getD i2 0) := ⟨_, rfl⟩
        have hw16 := hI.ws.cell (rwcells_at blk.data.toList k i16 (by omega)); rw [← H16.out] at hw16
        have hw15 := hI.ws.cell (rwcells_at blk.data.toList k i15 (by omega)); rw [← H15.out] at hw15
        have hw7 := hI.ws.cell (rwcells_at blk.data.toList k i7 (by omega)); rw [← H7.out] at hw7
        have hw2 := hI.ws.cell (rwcells_at blk.data.toList k i2 (by omega)); rw [← H2.out] at hw2
        have l16' : Lt32 a16 := ⟨by rw [H16.out]; exact wordsTo_lt _ _ _⟩
        have l15' : Lt32 a15 := ⟨by rw [H15.out]; exact wordsTo_lt _ _ _⟩
        have l7' : Lt32 a7 := ⟨by rw [H7.out]; exact wordsTo_lt _ _ _⟩
        have l2' : Lt32 a2 := ⟨by rw [H2.out]; exact wordsTo_lt _ _ _⟩
        obtain ⟨y0, Hy0⟩ : ∃ y, Hid (y = sg0 a15) := ⟨_, rfl⟩
        obtain ⟨y1, Hy1⟩ : ∃ y, Hid (y = sg1 a2) := ⟨_, rfl⟩
        have ly0 : Lt32 y0 := ⟨by rw [Hy0.out]; exact sg0_lt a15 l15'.lt⟩
        have ly1 : Lt32 y1 := ⟨by rw [Hy1.out]; exact sg1_lt a2 l2'.lt⟩
        have HI := Lib.hid hI; clear hI
        have e16 : IntKind.i64.wrap ((k : Int) - 16) = i16 := by rw [IntWalk.i64_in _ (by omega)]; omega
        have e15 : IntKind.i64.wrap ((k : Int) - 15) = i15 := by rw [IntWalk.i64_in _ (by omega)]; omega
        have e7 : IntKind.i64.wrap ((k : Int) - 7) = i7 := by rw [IntWalk.i64_in _ (by omega)]; omega
        have e2 : IntKind.i64.wrap ((k : Int) - 2) = i2 := by rw [IntWalk.i64_in _ (by omega)]; omega
        have l16 : (i16 : Int) < 64 := by omega
        have l15 : (i15 : Int) < 64 := by omega
        have l7 : (i7 : Int) < 64 := by omega
        have l2 : (i2 : Int) < 64 := by omega
        have HE := Lib.hid (And.intro h16' (And.intro h15' (And.intro h7' h2')))
        clear h16' h15' h7' h2'
        go_wp2_with fail
        refine wp_region_still_drew (by kernel_rfl) (by kernel_rfl) ?_
        iterate 10 still_step
        refine wpStill_nil ?_
        go_wp2_with fail
        refine (turn_walk a15 7 _ l15'.lt (by omega) (by omega)).mono ?_
        rintro e w' ⟨rfl, n1, rfl⟩
        go_wp2_with fail
        refine (turn_walk a15 18 _ l15'.lt (by omega) (by omega)).mono ?_
        rintro e w' ⟨rfl, n2, rfl⟩
        go_wp2_with fail
        rw [rsg0_num _ l15'.lt, ← Hy0.out]
        refine (turn_walk a2 17 _ l2'.lt (by omega) (by omega)).mono ?_
        rintro e w' ⟨rfl, n3, rfl⟩
        go_wp2_with fail
        refine (turn_walk a2 19 _ l2'.lt (by omega) (by omega)).mono ?_
        rintro e w' ⟨rfl, n4, rfl⟩
        go_wp2_with fail
        rw [rsg1_num _ l2'.lt, ← Hy1.out]
        refine wp_region_still_tail_drew 16 (by kernel_rfl) (by kernel_rfl) ?_
        simp only [List.take_succ_cons, List.take_zero, List.drop_succ_cons, List.drop_zero]
        iterate 16 still_step
        refine wpStill_nil ?_
        clear e16 e15 e7 e2
        go_wp2_with fail
        go_roundw
        case rel =>
          refine ⟨k + 1, by omega, by go_num, ?_⟩
          have hE := HE.out
          rw [rword_num _ _ _ _ l16'.lt ly0.lt l7'.lt ly1.lt]
          refine (HI.out.drewN _).next hlt ?_
          rw [nextWord_hi _ _ h16, H16.out, Hy0.out, H15.out, H7.out, Hy1.out, H2.out, hE.1, hE.2.1, hE.2.2.1, hE.2.2.2]
        case measure => simp [intOf]; omega
    · obtain rfl : k = 64 := by omega
      rw [show ((64 : Nat) : Int) = 64 from rfl]
      obtain ⟨ws, Hws⟩ : ∃ ws, Hid (ws = wordsTo blk.data.toList 64) := ⟨_, rfl⟩
      have hlw : Hid (ws.length = 64) := by show _ = _; rw [Hws.out, wordsTo_length]
      obtain ⟨wo, rfl⟩ : ∃ wo : World, wo = wr := ⟨_, rfl⟩
      have HI := Lib.hid hI; clear hI
      go_wp2_with (first
        | ((with_reducible refine wpList_load_blk 154 (.tmp 3) b3 s.rcells 154 _ HI.out.x Try.underlying154 rfl (rsize8 s) ?hgd ?ho ?hx ?_); (case hgd => rfl); (case ho => rfl); (case hx => rfl))
        | ((with_reducible refine wpList_alloc_new 154 S8.zero.rcells rzero8 (some 13) ?hgd ?ho ?hd ?_); (case hgd => rfl); (case ho => rfl); (case hd => rfl); (intro b13 w13 l13 B13 e13 z13))
        | ((with_reducible refine wpList_store_new 154 (.tmp 13) (.tmp 85) b13 S8.zero.rcells s.rcells 154 B13 rfl (rsize8 s) (S8.rcells_one _) ?hgd ?ho ?hx ?hy ?_); (case hgd => rfl); (case ho => rfl); (case hx => rfl); (case hy => rfl); (intro w14 B14 o14)))
      have hJ : RInv2 w s ws b3 b5 b6 b7 b13 (rnds ws s 0) w14 := by
        have hI := HI.out
        have hl := hI.lo
        have hz := hI.ws.lt
        refine ⟨o14.blk (hI.x.below e13 (by omega)) (by omega), o14.blk (hI.ks.below e13 (by omega)) (by omega), o14.blk (hI.out.below e13 (by omega)) (by omega), o14.blk ((hI.ws.ext (by rw [rwcells_end, Hws.out])).below e13 (by omega)) (by omega), B14, o14.below (hI.bel.trans (e13.mono (by have := hI.bel.size; omega))) (by have := hI.bel.size; omega), by omega⟩
      clear HI B13 B14 o14 e13 z13 l13
      go_loopw [14] (fun i wr => ∃ k : Nat, k ≤ 64 ∧ i = .int .i64 k ∧ RInv2 w s ws b3 b5 b6 b7 b13 (rnds ws s k) wr) (fun i _ => 64 - (intOf i).toNat)
      case atStart => exact ⟨0, by omega, rfl, hJ⟩
      case round =>
        clear hJ
        obtain ⟨k, hk, rfl, hI⟩ := hrel
        by_cases hlt : k < 64
        · have hlt' : (k : Int) < 64 := by omega
          obtain ⟨y, Hy⟩ : ∃ y, Hid (y = rnds ws s k) := ⟨_, rfl⟩
          rw [← Hy.out] at hI
          have hy : y.ok := by rw [Hy.out]; exact rnds_ok ws hs k
          obtain ⟨ya, yb, yc, yd, ye, yf, yg, yh⟩ := y
          obtain ⟨a0, a1, a2, a3, a4, a5, a6, a7⟩ := hy
          have A0 : Lt32 ya := ⟨a0⟩
          have A1 : Lt32 yb := ⟨a1⟩
          have A2 : Lt32 yc := ⟨a2⟩
          have A3 : Lt32 yd := ⟨a3⟩
          have A4 : Lt32 ye := ⟨a4⟩
          have A5 : Lt32 yf := ⟨a5⟩
          have A6 : Lt32 yg := ⟨a6⟩
          have A7 : Lt32 yh := ⟨a7⟩
          clear a0 a1 a2 a3 a4 a5 a6 a7
          obtain ⟨kk, Hkk⟩ : ∃ kk, Hid (kk = roundK.getD k 0) := ⟨_, rfl⟩
          obtain ⟨wk, Hwk⟩ : ∃ wk, Hid (wk = ws.getD k 0) := ⟨_, rfl⟩
          have lk : Lt32 kk := ⟨by rw [Hkk.out]; exact roundK_lt k⟩
          have lw : Lt32 wk := ⟨by rw [Hwk.out, Hws.out]; exact wordsTo_lt _ _ _⟩
          have c0 : wr.cell? ⟨b13, 0, none⟩ = some (.int .i64 ya) := hI.y.cell rfl
          have c1 : wr.cell? ⟨b13, 1, none⟩ = some (.int .i64 yb) := hI.y.cell rfl
          have c2 : wr.cell? ⟨b13, 2, none⟩ = some (.int .i64 yc) := hI.y.cell rfl
          have c3 : wr.cell? ⟨b13, 3, none⟩ = some (.int .i64 yd) := hI.y.cell rfl
          have c4 : wr.cell? ⟨b13, 4, none⟩ = some (.int .i64 ye) := hI.y.cell rfl
          have c5 : wr.cell? ⟨b13, 5, none⟩ = some (.int .i64 yf) := hI.y.cell rfl
          have c6 : wr.cell? ⟨b13, 6, none⟩ = some (.int .i64 yg) := hI.y.cell rfl
          have c7 : wr.cell? ⟨b13, 7, none⟩ = some (.int .i64 yh) := hI.y.cell rfl
          have ck : wr.cell? ⟨b5, k, none⟩ = some (.int .i64 kk) := by rw [Hkk.out]; exact hI.ks.cell (nums64_at _ _ (by show k < 64; exact hlt))
          have cw : wr.cell? ⟨b7, k, none⟩ = some (.int .i64 wk) := by rw [Hwk.out]; exact hI.ws.cell (nums64_at _ _ (by rw [hlw.out]; exact hlt))
          have HI := Lib.hid hI; clear hI
          go_wp2_with fail
          refine wp_region_still_drew (by kernel_rfl) (by kernel_rfl) ?_
          iterate 24 still_step
          refine wpStill_nil ?_
          have HI1 : Hid (RInv2 w s ws b3 b5 b6 b7 b13 ⟨ya, yb, yc, yd, ye, yf, yg, yh⟩ wr.drew) := HI.out.drewN 1
          have ck1 : wr.drew.cell? ⟨b5, k, none⟩ = some (.int .i64 kk) := ck
          have cw1 : wr.drew.cell? ⟨b7, k, none⟩ = some (.int .i64 wk) := cw
          clear c0 c1 c2 c3 c4 c5 c6 c7 ck cw HI
          revert HI1 ck1 cw1
          generalize wr.drew = w1
          intro HI1 ck1 cw1
          go_wp2_with fail
          go_quiet ((go_at_call 158; refine Calls.quiet_of (turn_walk ye _ _ A4.lt (by omega) (by omega))))
          go_wp2_with fail
          obtain ⟨t, Ht⟩ : ∃ t, Hid (t = tOf ⟨ya, yb, yc, yd, ye, yf, yg, yh⟩ kk wk) := ⟨_, rfl⟩
          obtain ⟨u, Hu⟩ : ∃ u, Hid (u = uOf ⟨ya, yb, yc, yd, ye, yf, yg, yh⟩) := ⟨_, rfl⟩
          rw [rt_num ya yb yc yd ye yf yg yh kk wk A4.lt A5.lt A6.lt A7.lt lk.lt lw.lt, ← Ht.out]
          refine (turn_walk ya _ _ A0.lt (by omega) (by omega)).mono ?_
          rintro e w' ⟨rfl, n1, rfl⟩
          go_wp2_with fail
          refine (turn_walk ya _ _ A0.lt (by omega) (by omega)).mono ?_
          rintro e w' ⟨rfl, n2, rfl⟩
          go_wp2_with fail
          refine (turn_walk ya _ _ A0.lt (by omega) (by omega)).mono ?_
          rintro e w' ⟨rfl, n3, rfl⟩
          go_wp2_with ((with_reducible refine wpList_store_new 154 (.tmp 13) (.tmp 167) b13 (S8.rcells ⟨ya, yb, yc, yd, ye, yf, yg, yh⟩) ?cs 154 (HI1.out.drewN _).y ?hl ?hi ?h1 ?hgd ?ho ?hx ?hy ?_); (case hgd => rfl); (case ho => rfl); (case hx => rfl); (case hy => rfl); (case hl => rfl); (case hi => exact rsize8 S8.zero); (case h1 => (intro v hv; simp only [List.mem_cons, List.not_mem_nil, or_false] at hv; rcases hv with rfl | rfl | rfl | rfl | rfl | rfl | rfl | rfl <;> rfl)); (intro w13 B7n o13))
          go_roundw
          case rel =>
            have ht := tOf_lt (k := kk) (w := wk) (s := ⟨ya, yb, yc, yd, ye, yf, yg, yh⟩) A4.lt A7.lt lk.lt lw.lt
            have hu := uOf_lt (s := ⟨ya, yb, yc, yd, ye, yf, yg, yh⟩) A0.lt A1.lt
            have hd := A3.lt
            rw [← Ht.out] at ht
            rw [← Hu.out] at hu
            rw [ru_num ya yb yc yd ye yf yg yh A0.lt A1.lt A2.lt, ← Hu.out, radd_num _ _ ht hu, radd_num _ _ (by omega) ht] at B7n
            have eN : rnds ws s (k + 1) = rnd ⟨ya, yb, yc, yd, ye, yf, yg, yh⟩ kk wk := by
              rw [show rnds ws s (k + 1) = rnd (rnds ws s k) (roundK.getD k 0) (ws.getD k 0) from rfl, ← Hy.out, ← Hkk.out, ← Hwk.out]
            refine ⟨k + 1, by omega, by go_num, ?_⟩
            rw [eN]
            have hI := HI1.out.drewN (nq + n1 + n2 + n3)
            refine ⟨o13.blk hI.x ?_, o13.blk hI.ks ?_, o13.blk hI.out ?_, o13.blk hI.ws ?_, B7n.ext ?_, o13.below hI.bel ?_, hI.lo⟩
            all_goals have hlo := hI.lo
            · omega
            · omega
            · omega
            · omega
            · rw [Ht.out, Hu.out]; rfl
            · omega
          case measure => simp [intOf]; omega
        · obtain rfl : k = 64 := by omega
          obtain ⟨y, Hy⟩ : ∃ y, Hid (y = rnds ws s 64) := ⟨_, rfl⟩
          rw [← Hy.out] at hI
          have hyo : y.ok := by rw [Hy.out]; exact rnds_ok ws hs 64
          have hU : RInv3 w s b3 b6 b13 (mix y.l s.l 0) wr := ⟨hI.x, hI.out, hI.y, hI.bel, by have := hI.lo; omega⟩
          clear hI
          obtain ⟨wo, rfl⟩ : ∃ wo : World, wo = wr := ⟨_, rfl⟩
          have HU := Lib.hid hU; clear hU
          rw [show ((64 : Nat) : Int) = 64 from rfl]
          go_wp2_with fail
          go_loopw [25] (fun i wr => ∃ k : Nat, k ≤ 8 ∧ i = .int .i64 k ∧ RInv3 w s b3 b6 b13 (mix y.l s.l k) wr) (fun i _ => 8 - (intOf i).toNat)
          case atStart => exact ⟨0, by omega, rfl, HU.out⟩
          case round =>
            obtain ⟨k, hk, rfl, hI⟩ := hrel
            clear HU
            by_cases hlt : k < 8
            · have hlt' : (k : Int) < 8 := by omega
              obtain ⟨yk, Hyk⟩ : ∃ a, Hid (a = y.l.getD k 0) := ⟨_, rfl⟩
              obtain ⟨xk, Hxk⟩ : ∃ a, Hid (a = s.l.getD k 0) := ⟨_, rfl⟩
              have ly : Lt32 yk := ⟨by rw [Hyk.out]; exact S8.l_lt hyo k⟩
              have lx : Lt32 xk := ⟨by rw [Hxk.out]; exact S8.l_lt hs k⟩
              have cy : wr.cell? ⟨b13, k, none⟩ = some (.int .i64 yk) := by
                rw [hI.y.cell (nums64_at _ _ (by rw [mix_length]; exact hlt)), mix_at _ _ _ _ hlt, if_neg (by omega), ← Hyk.out]
              have cx : wr.cell? ⟨b3, k, none⟩ = some (.int .i64 xk) := by
                rw [hI.x.cell (nums64_at _ _ (by exact hlt)), ← Hxk.out]
              have cf := hI.y.free k
              have HI := Lib.hid hI; clear hI
              go_wp2_with fail
              refine wp_region_still_tail_drew 10 (by kernel_rfl) (by kernel_rfl) ?_
              simp only [List.take_succ_cons, List.take_zero, List.drop_succ_cons, List.drop_zero]
              iterate 10 still_step
              refine wpStill_nil ?_
              go_wp2_with fail
              go_roundw
              case rel =>
                have hI := HI.out
                refine ⟨k + 1, by omega, by go_num, ?_⟩
                rw [radd_num _ _ (by have := ly.lt; omega) (by have := lx.lt; omega)]
                refine ⟨(hI.x.drewN 1).set_other (by have := hI.lo; show b3 ≠ b13; omega) _, (hI.out.drewN 1).set_other (by have := hI.lo; show b6 ≠ b13; omega) _, ?_, (Below.drewN hI.bel 1).setCell (by have := hI.lo; show w.heap.size ≤ b13; omega) _, hI.lo⟩
                refine ((hI.y.drewN 1).set k _).ext ?_
                rw [← rmix_set _ _ _ hlt, ← Hyk.out, ← Hxk.out]
              case measure => simp [intOf]; omega
            · obtain rfl : k = 8 := by omega
              have HI := Lib.hid hI; clear hI
              obtain ⟨r, Hr⟩ : ∃ r, Hid (r = y.add s) := ⟨_, rfl⟩
              have ey : Hid (nums64 (mix y.l s.l 8) = r.rcells) := by show _ = _; rw [rmix_all, Hr.out]
              have er : Hid (r = stp s blk.data.toList) := by show _ = _; rw [Hr.out, Hy.out, Hws.out]; rfl
              go_wp2_with (first
                | ((with_reducible refine wpList_load_blk 154 (.tmp 13) b13 r.rcells 154 _ (HI.out.y.ext ey.out) Try.underlying154 rfl (rsize8 r) ?hgd ?ho ?hx ?_); (case hgd => rfl); (case ho => rfl); (case hx => rfl))
                | ((with_reducible refine wpList_store_new 154 (.tmp 6) (.tmp 182) b6 S8.zero.rcells r.rcells 154 HI.out.out rfl (rsize8 r) (S8.rcells_one _) ?hgd ?ho ?hx ?hy ?_); (case hgd => rfl); (case ho => rfl); (case hx => rfl); (case hy => rfl); (intro w12 B4w o12))
                | ((with_reducible refine bodyPost_ret (v := r.rval) ?hr ?hd ?hR)
                   (case hd => rfl)
                   (case hR => exact ⟨by rw [er.out], o12.below HI.out.bel (by have := HI.out.lo; omega)⟩)
                   (case hr => exact results_cell_row rfl _ _ b6 _ _ _ _ rfl B4w Try.underlying154 rfl (rsize8 r))))
end Go.Proofs.Ytacoibiafpdoaaa
