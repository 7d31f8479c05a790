/- Walk of the method turned of package sha: what a block does to the state. -/
import Derived.Test.YtacoibiafpdoaaaWSha3
namespace Go.Proofs.Ytacoibiafpdoaaa
open Go Go.RowKit
set_option linter.unusedVariables false

theorem ch_num (e f g : Nat) (he : e < 4294967296) (hf : f < 4294967296) (hg : g < 4294967296) :
    bits BinOp.xor IntKind.u32 (g : Int) (bits BinOp.and IntKind.u32 (e : Int) (bits BinOp.xor IntKind.u32 (f : Int) (g : Int))) = ((chs e f g : Nat) : Int) := by
  rw [u32_xor_nat _ _ hf hg, u32_and_nat _ _ he (xor_lt32 hf hg), u32_xor_nat _ _ hg (and_lt32 he), chs_eq he hg]
theorem maj_num (a b c : Nat) (ha : a < 4294967296) (hb : b < 4294967296) (hc : c < 4294967296) :
    bits BinOp.or IntKind.u32 (bits BinOp.and IntKind.u32 (a : Int) (b : Int)) (bits BinOp.and IntKind.u32 (c : Int) (bits BinOp.or IntKind.u32 (a : Int) (b : Int))) = ((maj a b c : Nat) : Int) := by
  rw [u32_and_nat _ _ ha hb, u32_or_nat _ _ ha hb, u32_and_nat _ _ hc (or_lt32 ha hb), u32_or_nat _ _ (and_lt32 ha) (and_lt32 hc), maj_eq]

def zeros32 (n : Nat) : List Value := List.replicate n (.int .u32 0)
theorem zero64 (w : World) : Sem.run Try.prog (zeroValue 170) w = .ok (.agg (zeros32 64).toArray) w := by kernel_rfl
theorem zero8 (w : World) : Sem.run Try.prog (zeroValue 144) w = .ok (.agg S8.zero.cells.toArray) w := by kernel_rfl
theorem size64 : (Try.prog.info? 170).map (·.size) = some 64 := by kernel_rfl
theorem size8 (s : S8) : (Try.prog.info? 144).map (·.size) = some s.cells.length := by kernel_rfl

/-- What the loop of the rounds keeps. -/
structure TInv (w0 : World) (s : S8) (ws : List Nat) (b2 b4 b5 b6 b7 : Nat) (y : S8) (w : World) : Prop where
  x : Blk w b2 s.cells 144
  out : Blk w b4 S8.zero.cells 144
  ws : Blk w b5 (nums32 ws) 170
  ks : Blk w b6 (nums32 roundK) 170
  y : Blk w b7 y.cells 144
  bel : Below w0.heap.size w0 w
  lo : w0.heap.size ≤ b2 ∧ b2 < b4 ∧ b4 < b5 ∧ b5 < b6 ∧ b6 < b7

/-- The numbers of a state, the first k of them added to another's. -/
def mix (y x : List Nat) (k : Nat) : List Nat := (List.range 8).map fun i => if i < k then (y.getD i 0 + x.getD i 0) % 4294967296 else y.getD i 0
theorem mix_length (y x : List Nat) (k : Nat) : (mix y x k).length = 8 := by simp [mix]
theorem mix_at (y x : List Nat) (k i : Nat) (hi : i < 8) : (mix y x k).getD i 0 = if i < k then (y.getD i 0 + x.getD i 0) % 4294967296 else y.getD i 0 := by
  simp [mix, hi]
theorem S8.cells_l (s : S8) : s.cells = nums32 s.l := rfl
theorem mix_zero (y : S8) (x : List Nat) : mix y.l x 0 = y.l := by rfl
theorem mix_all (y x : S8) : nums32 (mix y.l x.l 8) = (y.add x).cells := by rfl
theorem mix_set (y x : List Nat) (k : Nat) (hk : k < 8) : (nums32 (mix y x k)).set k (.int .u32 (((y.getD k 0 + x.getD k 0) % 4294967296 : Nat) : Int)) = nums32 (mix y x (k + 1)) := by
  apply List.ext_getElem?
  intro i
  by_cases hi : i < 8
  · rw [List.getElem?_set]
    by_cases e : k = i
    · subst e
      rw [if_pos rfl, if_pos (by simp [nums32_length, mix_length, hi]), nums32_at _ _ (by rw [mix_length]; exact hi), mix_at _ _ _ _ hi, if_pos (by omega)]
    · rw [if_neg e, nums32_at _ _ (by rw [mix_length]; exact hi), nums32_at _ _ (by rw [mix_length]; exact hi), mix_at _ _ _ _ hi, mix_at _ _ _ _ hi]
      by_cases h : i < k
      · rw [if_pos h, if_pos (by omega)]
      · rw [if_neg h, if_neg (by omega)]
  · rw [List.getElem?_eq_none (by simp [nums32_length, mix_length]; omega), List.getElem?_eq_none (by simp [nums32_length, mix_length]; omega)]

/-- What the loop of the sums keeps. -/
structure UInv (w0 : World) (s : S8) (b2 b4 b7 : Nat) (y : List Nat) (w : World) : Prop where
  x : Blk w b2 (nums32 s.l) 144
  out : Blk w b4 S8.zero.cells 144
  y : Blk w b7 (nums32 y) 144
  bel : Below w0.heap.size w0 w
  lo : w0.heap.size ≤ b2 ∧ b2 < b4 ∧ b4 < b7

set_option maxRecDepth 100000 in
set_option maxHeartbeats 1000000 in
theorem turned_walk (s : S8) (hs : s.ok) (blk : ByteArray) (w : World) (h : blk.size = 64) :
    Calls Try.prog 129 #[s.val, .string blk] w fun e w' => e = .returned (stp s blk.data.toList).val ∧ Below w.heap.size w w' := by
  obtain ⟨ws, Hws⟩ : ∃ ws, Hid (ws = wordsTo blk.data.toList 64) := ⟨_, rfl⟩
  have hlw : Hid ((nums32 ws).length = 64) := by show _ = _; rw [Hws.out, nums32_length, wordsTo_length]
  have hlk : Hid ((nums32 roundK).length = 64) := by show _ = _; rfl
  have hlz : Hid ((zeros32 64).length = 64) := by show _ = _; simp [zeros32]
  go_enter Try.func129, Try.ntmps129
  go_wp2_with (first
    | ((with_reducible refine wpList_box_new 144 (.tmp 0) s.cells (some 2) ?hgd ?ho ?hd ?hx ?_); (case hgd => rfl); (case ho => rfl); (case hd => rfl); (case hx => rfl); (intro b2 w2 l2 B2 e2 z2))
    | ((with_reducible refine wpList_alloc_new 144 S8.zero.cells zero8 (some 4) ?hgd ?ho ?hd ?_); (case hgd => rfl); (case ho => rfl); (case hd => rfl); (intro b4 w4 l4 B4 e4 z4)))
  refine (words_walk blk _ h).mono ?_
  rintro e w5 ⟨rfl, hb5⟩
  rw [← Hws.out]
  go_wp2_with fail
  refine (constants_walk _).mono ?_
  rintro e w6 ⟨rfl, hb6⟩
  go_wp2_with (first
    | ((with_reducible refine wpList_alloc_new 170 (zeros32 64) zero64 (some 5) ?hgd ?ho ?hd ?_); (case hgd => rfl); (case ho => rfl); (case hd => rfl); (intro b5 w7 l5 B5 e5 z5))
    | ((with_reducible refine wpList_alloc_new 170 (zeros32 64) zero64 (some 6) ?hgd ?ho ?hd ?_); (case hgd => rfl); (case ho => rfl); (case hd => rfl); (intro b6 w8 l6 B6 e6 z6); (have B5' := B5.below e6 (by omega)))
    | ((with_reducible refine wpList_store_new 170 (.tmp 5) (.tmp 19) b5 (zeros32 64) (nums32 ws) 170 B5' (hlw.out.trans hlz.out.symm) (size64.trans (congrArg some hlw.out.symm)) (nums32_one _) ?hgd ?ho ?hx ?hy ?_); (case hgd => rfl); (case ho => rfl); (case hx => rfl); (case hy => rfl); (intro w9 B5w o9); (have B6' := o9.blk B6 (by omega)))
    | ((with_reducible refine wpList_store_new 170 (.tmp 6) (.tmp 20) b6 (zeros32 64) (nums32 roundK) 170 B6' (hlk.out.trans hlz.out.symm) (size64.trans (congrArg some hlk.out.symm)) (nums32_one _) ?hgd ?ho ?hx ?hy ?_); (case hgd => rfl); (case ho => rfl); (case hx => rfl); (case hy => rfl); (intro w10 B6w o10); (have B2' := o10.blk (o9.blk ((((((B2.below e4 (by omega)).below hb5 (by omega)).below hb6 (by have := hb5.size; omega)).below e5 (by have := hb5.size; have := hb6.size; omega)).below e6 (by have := hb5.size; have := hb6.size; omega))) (by have := hb5.size; have := hb6.size; omega)) (by have := hb5.size; have := hb6.size; omega)))
    | ((with_reducible refine wpList_load_blk 144 (.tmp 2) b2 s.cells 144 _ B2' Try.underlying144 rfl (size8 s) ?hgd ?ho ?hx ?_); (case hgd => rfl); (case ho => rfl); (case hx => rfl))
    | ((with_reducible refine wpList_alloc_new 144 S8.zero.cells zero8 (some 7) ?hgd ?ho ?hd ?_); (case hgd => rfl); (case ho => rfl); (case hd => rfl); (intro b7 w11 l7 B7 e7 z7))
    | ((with_reducible refine wpList_store_new 144 (.tmp 7) (.tmp 21) b7 S8.zero.cells s.cells 144 B7 rfl (size8 s) (S8.cells_one _) ?hgd ?ho ?hx ?hy ?_); (case hgd => rfl); (case ho => rfl); (case hx => rfl); (case hy => rfl); (intro w12 B7w o12)))
  have q5 := hb5.size
  have q6 := hb6.size
  have q9 := o9.size
  have q10 := o10.size
  have hw12 : TInv w s ws b2 b4 b5 b6 b7 (rnds ws s 0) w12 := by
    refine ⟨o12.blk (B2'.below e7 (by omega)) (by omega), ?_, o12.blk ((o10.blk B5w (by omega)).below e7 (by omega)) (by omega), o12.blk (B6w.below e7 (by omega)) (by omega), B7w, ?_, by omega⟩
    · exact o12.blk ((o10.blk (o9.blk (((((B4.below hb5 (by omega)).below hb6 (by omega)).below e5 (by omega)).below e6 (by omega))) (by omega)) (by omega)).below e7 (by omega)) (by omega)
    · exact o12.below ((o10.below (o9.below ((((((e2.mono l2).trans (e4.mono (by omega))).trans (hb5.mono (by omega))).trans (hb6.mono (by omega))).trans (e5.mono (by omega))).trans (e6.mono (by omega))) (by omega)) (by omega)).trans (e7.mono (by omega))) (by omega)
  clear q5 q6 q9 q10 B2 B4 B5 B6 B7 B5' B6' B2' B5w B6w B7w o9 o10 o12 e2 e4 e5 e6 e7 l2 l4 l5 l6 l7 z2 z4 z5 z6 z7 hb5 hb6
  go_loopw [22] (fun i wr => ∃ k : Nat, k ≤ 64 ∧ i = .int .i64 k ∧ TInv w s ws b2 b4 b5 b6 b7 (rnds ws s k) wr) (fun i _ => 64 - (intOf i).toNat)
  case atStart => exact ⟨0, by omega, rfl, hw12⟩
  case round =>
    clear hw12
    obtain ⟨k, hk, rfl, hI⟩ := hrel
    by_cases hlt : k < 64
    · have hlt' : (k : Int) < 64 := by omega
      obtain ⟨y, Hy⟩ : ∃ y, Hid (y = rnds ws s k) := ⟨_, rfl⟩
      rw [← Hy.out] at hI
      have hy : y.ok := by rw [Hy.out]; exact rnds_ok ws hs k
      obtain ⟨ya, yb, yc, yd, ye, yf, yg, yh⟩ := y
      obtain ⟨a0, a1, a2, a3, a4, a5, a6, a7⟩ := hy
      obtain ⟨kk, Hkk⟩ : ∃ kk, Hid (kk = roundK.getD k 0) := ⟨_, rfl⟩
      obtain ⟨wk, Hwk⟩ : ∃ wk, Hid (wk = ws.getD k 0) := ⟨_, rfl⟩
      have c0 : wr.cell? ⟨b7, 0, none⟩ = some (.int .u32 ya) := hI.y.cell rfl
      have c1 : wr.cell? ⟨b7, 1, none⟩ = some (.int .u32 yb) := hI.y.cell rfl
      have c2 : wr.cell? ⟨b7, 2, none⟩ = some (.int .u32 yc) := hI.y.cell rfl
      have c3 : wr.cell? ⟨b7, 3, none⟩ = some (.int .u32 yd) := hI.y.cell rfl
      have c4 : wr.cell? ⟨b7, 4, none⟩ = some (.int .u32 ye) := hI.y.cell rfl
      have c5 : wr.cell? ⟨b7, 5, none⟩ = some (.int .u32 yf) := hI.y.cell rfl
      have c6 : wr.cell? ⟨b7, 6, none⟩ = some (.int .u32 yg) := hI.y.cell rfl
      have c7 : wr.cell? ⟨b7, 7, none⟩ = some (.int .u32 yh) := hI.y.cell rfl
      have ck : wr.cell? ⟨b6, k, none⟩ = some (.int .u32 kk) := by rw [Hkk.out]; exact hI.ks.cell (nums32_at _ _ (by rw [← nums32_length, hlk.out]; exact hlt))
      have cw : wr.cell? ⟨b5, k, none⟩ = some (.int .u32 wk) := by rw [Hwk.out]; exact hI.ws.cell (nums32_at _ _ (by rw [← nums32_length, hlw.out]; exact hlt))
      have HI := Lib.hid hI; clear hI
      go_wp2_with fail
      refine wp_region_still_drew (by kernel_rfl) (by kernel_rfl) ?_
      iterate 18 still_step
      refine wpStill_nil ?_
      go_wp2_with fail
      refine wp_region_still_drew (by kernel_rfl) (by kernel_rfl) ?_
      iterate 3 still_step
      still_call (still_of (three_bg1 _ _ a4))
      repeat still_step
      refine wpStill_nil ?_
      go_wp2_with fail
      refine (three_bg0 _ _ a0).mono ?_
      rintro e w' ⟨rfl, rfl⟩
      go_wp2_with ((with_reducible refine wpList_store_new 144 (.tmp 7) (.tmp 83) b7 (S8.cells ⟨ya, yb, yc, yd, ye, yf, yg, yh⟩) ?cs 144 HI.out.y.drew.drew ?hl ?hi ?h1 ?hgd ?ho ?hx ?hy ?_); (case hgd => rfl); (case ho => rfl); (case hx => rfl); (case hy => rfl); (case hl => rfl); (case hi => exact size8 S8.zero); (case h1 => (intro v hv; simp only [List.mem_cons, List.not_mem_nil, or_false] at hv; rcases hv with rfl | rfl | rfl | rfl | rfl | rfl | rfl | rfl <;> rfl)); (intro w13 B7n o13))
      go_roundw
      case rel =>
        have eN : rnds ws s (k + 1) = rnd ⟨ya, yb, yc, yd, ye, yf, yg, yh⟩ kk wk := by
          rw [show rnds ws s (k + 1) = rnd (rnds ws s k) (roundK.getD k 0) (ws.getD k 0) from rfl, ← Hy.out, ← Hkk.out, ← Hwk.out]
        refine ⟨k + 1, by omega, by go_num, ?_⟩
        rw [eN]
        have hI := HI.out
        refine ⟨o13.blk hI.x.drew.drew ?_, o13.blk hI.out.drew.drew ?_, o13.blk hI.ws.drew.drew ?_, o13.blk hI.ks.drew.drew ?_, B7n.ext ?_, o13.below hI.bel.drew.drew ?_, hI.lo⟩
        all_goals have hlo := hI.lo
        · omega
        · omega
        · omega
        · omega
        · rw [ch_num _ _ _ a4 a5 a6, maj_num _ _ _ a0 a1 a2]
          simp [S8.cells, rnd, tOf, uOf]
        · omega
      case measure => simp [intOf]; omega
    · obtain rfl : k = 64 := by omega
      obtain ⟨y, Hy⟩ : ∃ y, Hid (y = rnds ws s 64) := ⟨_, rfl⟩
      rw [← Hy.out] at hI
      have hU : UInv w s b2 b4 b7 (mix y.l s.l 0) wr := ⟨hI.x, hI.out, hI.y, hI.bel, by have := hI.lo; omega⟩
      clear hI
      obtain ⟨wo, rfl⟩ : ∃ wo : World, wo = wr := ⟨_, rfl⟩
      have HU := Lib.hid hU; clear hU
      rw [show ((64 : Nat) : Int) = 64 from rfl]
      go_wp2_with fail
      go_loopw [85] (fun i wr => ∃ k : Nat, k ≤ 8 ∧ i = .int .i64 k ∧ UInv w s b2 b4 b7 (mix y.l s.l k) wr) (fun i _ => 8 - (intOf i).toNat)
      case atStart => exact ⟨0, by omega, rfl, HU.out⟩
      case round =>
        obtain ⟨k, hk, rfl, hI⟩ := hrel
        clear HU
        by_cases hlt : k < 8
        · have hlt' : (k : Int) < 8 := by omega
          obtain ⟨yk, Hyk⟩ : ∃ a, Hid (a = y.l.getD k 0) := ⟨_, rfl⟩
          obtain ⟨xk, Hxk⟩ : ∃ a, Hid (a = s.l.getD k 0) := ⟨_, rfl⟩
          have cy : wr.cell? ⟨b7, k, none⟩ = some (.int .u32 yk) := by
            rw [hI.y.cell (nums32_at _ _ (by rw [mix_length]; exact hlt)), mix_at _ _ _ _ hlt, if_neg (by omega), ← Hyk.out]
          have cx : wr.cell? ⟨b2, k, none⟩ = some (.int .u32 xk) := by
            rw [hI.x.cell (nums32_at _ _ (by exact hlt)), ← Hxk.out]
          have cf := hI.y.free k
          have HI := Lib.hid hI; clear hI
          go_wp2_with fail
          refine wp_region_still_tail_drew 8 (by kernel_rfl) (by kernel_rfl) ?_
          simp only [List.take_succ_cons, List.take_zero, List.drop_succ_cons, List.drop_zero]
          iterate 8 still_step
          refine wpStill_nil ?_
          go_wp2_with fail
          go_roundw
          case rel =>
            have hI := HI.out
            refine ⟨k + 1, by omega, by go_num, (hI.x.set_other (by have := hI.lo; show b2 ≠ b7; omega) _).drew, (hI.out.set_other (by have := hI.lo; show b4 ≠ b7; omega) _).drew, ?_, (hI.bel.setCell (by have := hI.lo; show w.heap.size ≤ b7; omega) _).drew, hI.lo⟩
            refine ((hI.y.set k _).ext ?_).drew
            rw [← mix_set _ _ _ hlt, ← Hyk.out, ← Hxk.out]
            congr 2
          case measure => simp [intOf]; omega
        · obtain rfl : k = 8 := by omega
          have HI := Lib.hid hI; clear hI
          obtain ⟨r, Hr⟩ : ∃ r, Hid (r = y.add s) := ⟨_, rfl⟩
          have ey : Hid (nums32 (mix y.l s.l 8) = r.cells) := by show _ = _; rw [mix_all, Hr.out]
          have er : Hid (r = stp s blk.data.toList) := by show _ = _; rw [Hr.out, Hy.out, Hws.out]; rfl
          go_wp2_with (first
            | ((with_reducible refine wpList_load_blk 144 (.tmp 7) b7 r.cells 144 _ (HI.out.y.ext ey.out) Try.underlying144 rfl (size8 r) ?hgd ?ho ?hx ?_); (case hgd => rfl); (case ho => rfl); (case hx => rfl))
            | ((with_reducible refine wpList_store_new 144 (.tmp 4) (.tmp 97) b4 S8.zero.cells r.cells 144 HI.out.out rfl (size8 r) (S8.cells_one _) ?hgd ?ho ?hx ?hy ?_); (case hgd => rfl); (case ho => rfl); (case hx => rfl); (case hy => rfl); (intro w12 B4w o12))
            | ((with_reducible refine bodyPost_ret (v := r.val) ?hr ?hd ?hR)
               (case hd => rfl)
               (case hR => exact ⟨by rw [er.out], o12.below HI.out.bel (by have := HI.out.lo; omega)⟩)
               (case hr => exact results_cell_row rfl _ _ b4 _ _ _ _ rfl B4w Try.underlying144 rfl (size8 r))))
end Go.Proofs.Ytacoibiafpdoaaa
