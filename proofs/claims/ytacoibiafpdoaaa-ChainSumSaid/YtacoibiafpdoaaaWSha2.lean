/- Walk of sha.words: a block's sixty-four words. -/
import Derived.Test.YtacoibiafpdoaaaWSha1
import Derived.Test.YtacoibiafpdoaaaMem
import Derived.StillTailTactics
import Derived.Deep.WholeRow
import Derived.Lib.Hide
import Derived.Outline
namespace Go.Proofs.Ytacoibiafpdoaaa
open Go Go.RowKit
set_option linter.unusedVariables false

def nums32 (l : List Nat) : List Value := l.map (fun n => .int .u32 ((n : Nat) : Int))
theorem nums32_length (l : List Nat) : (nums32 l).length = l.length := by simp [nums32]
theorem nums32_one (l : List Nat) : ∀ v ∈ nums32 l, v.oneCell' = true := by
  intro v hv
  obtain ⟨_, _, rfl⟩ := List.mem_map.1 hv
  rfl
theorem nums32_at (l : List Nat) (i : Nat) (hi : i < l.length) : (nums32 l)[i]? = some (.int .u32 ((l.getD i 0 : Nat) : Int)) := by
  simp [nums32, hi]

def wcells (blk : List UInt8) (k : Nat) : List Value := nums32 (wordsTo blk k ++ List.replicate (64 - k) 0)
theorem wcells_length (blk : List UInt8) (k : Nat) (hk : k ≤ 64) : (wcells blk k).length = 64 := by simp [wcells, nums32, wordsTo_length]; omega
theorem wcells_at (blk : List UInt8) (k i : Nat) (hi : i < k) : (wcells blk k)[i]? = some (.int .u32 (((wordsTo blk k).getD i 0 : Nat) : Int)) := by
  have hl := wordsTo_length blk k
  simp [wcells, nums32, List.getElem?_append, hl, hi]
theorem wcells_zat (blk : List UInt8) (k : Nat) (hk : k < 64) : (wcells blk k)[k]? = some (.int .u32 0) := by
  have hl := wordsTo_length blk k
  unfold wcells nums32
  rw [show List.replicate (64 - k) 0 = 0 :: List.replicate (64 - (k + 1)) 0 by rw [← List.replicate_succ]; congr 1; omega]
  simp [hl]
theorem wcells_set (blk : List UInt8) (k : Nat) (hk : k < 64) : (wcells blk k).set k (.int .u32 ((nextWord blk (wordsTo blk k) : Nat) : Int)) = wcells blk (k + 1) := by
  have hl := wordsTo_length blk k
  unfold wcells nums32
  rw [show List.replicate (64 - k) 0 = 0 :: List.replicate (64 - (k + 1)) 0 by rw [← List.replicate_succ]; congr 1; omega]
  simp only [wordsTo, List.map_append, List.map_cons, List.map_nil, List.append_assoc]
  rw [List.set_append_right _ _ (by simp [hl])]
  simp [hl]
theorem wcells_zero (blk : List UInt8) : wcells blk 0 = List.replicate 64 (.int .u32 0) := by simp [wcells, nums32, wordsTo]
theorem wcells_end (blk : List UInt8) : wcells blk 64 = nums32 (wordsTo blk 64) := by simp [wcells]

theorem nextWord_lo (l : List UInt8) (k : Nat) (h : k < 16) : nextWord l (wordsTo l k) = be32 l k := by
  unfold nextWord; rw [wordsTo_length, if_pos h]
theorem nextWord_hi (l : List UInt8) (k : Nat) (h : ¬ k < 16) : nextWord l (wordsTo l k) =
    ((wordsTo l k).getD (k - 16) 0 + sg0 ((wordsTo l k).getD (k - 15) 0) + (wordsTo l k).getD (k - 7) 0 + sg1 ((wordsTo l k).getD (k - 2) 0)) % 4294967296 := by
  unfold nextWord; rw [wordsTo_length, if_neg h]

theorem extract_toList (s : ByteArray) (a b : Nat) : (s.extract a b).data.toList = (s.data.toList.take b).drop a := by
  rw [ByteArray.data_extract, Array.toList_extract]
  simp [List.extract, List.drop_take]

theorem be32_drop (l : List UInt8) (k : Nat) : be32 (l.drop (4 * k)) 0 = be32 l k := by
  simp [be32, List.getElem?_drop]

theorem be32_extract (s : ByteArray) (k n : Nat) (hn : s.size ≤ n) : be32 (s.extract (4 * k) n).data.toList 0 = be32 s.data.toList k := by
  rw [extract_toList, List.take_of_length_le (by simpa using hn), be32_drop]

set_option maxRecDepth 100000 in
set_option maxHeartbeats 1000000 in
theorem words_walk (s : ByteArray) (w : World) (h : s.size = 64) :
    Calls Try.prog 150 #[.string s] w fun e w' => e = .returned (.agg (nums32 (wordsTo s.data.toList 64)).toArray) ∧ Below w.heap.size w w' := by
  have hs0 : s.size ≤ 64 := by omega
  have hs1 : 64 ≤ s.size := by omega
  clear h
  have hi : Hid ((Try.prog.info? 170).map (·.size) = some 64) := by show _ = _; kernel_rfl
  go_enter Try.func150, Try.ntmps150
  go_wp2_with fail
  go_loopw [5] (fun i wr => ∃ k : Nat, k ≤ 64 ∧ i = .int .i64 k ∧ Blk wr w.heap.size (List.replicate 64 (.int .u32 0)) 170 ∧ Blk wr (w.heap.size + 1) (wcells s.data.toList k) 170 ∧ Below w.heap.size w wr ∧ w.heap.size + 1 < wr.heap.size) (fun i _ => 64 - (intOf i).toNat)
  case atStart =>
    refine ⟨0, by omega, rfl, (Blk.new w (List.replicate 64 (.int .u32 0)) _).alloc _, ?_, ((Below.refl _ _).alloc (Nat.le_refl _) _).alloc (by simp) _, by simp⟩
    rw [wcells_zero]
    have := Blk.new (w.alloc (.cells (List.replicate 64 (.int .u32 0)).toArray 170)) (List.replicate 64 (.int .u32 0)) 170
    simpa using this
  case round =>
    obtain ⟨k, hk, rfl, hres, hblk, hbel, hsz⟩ := hrel
    by_cases hlt : k < 64
    · have hfz := hblk.free k
      have hck := hblk.cell (wcells_zat s.data.toList k hlt)
      have hlt' : (k : Int) < 64 := by omega
      by_cases h16 : k < 16
      · have HB := Lib.hid hblk; clear hblk
        have HR := Lib.hid hres; clear hres
        go_wp2_with fail
        refine (number_walk _ _ (by simp; omega)).mono ?_
        rintro e w' ⟨rfl, n, rfl⟩
        rw [be32_extract s k _ (Nat.le_refl _)]
        go_wp2_with fail
        go_roundw
        case rel =>
          refine ⟨k + 1, by omega, by go_num, ?_, ?_, ?_, ?_⟩
          · exact (HR.out.drewN n).set_other (by simp) _
          · refine ((HB.out.drewN n).set k _).ext ?_
            rw [← wcells_set _ _ hlt, nextWord_lo _ _ h16]
          · exact ((Below.drewN hbel n).setCell (by simp) _)
          · simpa using hsz
        case measure => simp [intOf]; omega
      · obtain ⟨i16, h16'⟩ : ∃ i, i = k - 16 := ⟨_, rfl⟩
        obtain ⟨i15, h15'⟩ : ∃ i, i = k - 15 := ⟨_, rfl⟩
        obtain ⟨i7, h7'⟩ : ∃ i, i = k - 7 := ⟨_, rfl⟩
        obtain ⟨i2, h2'⟩ : ∃ i, i = k - 2 := ⟨_, rfl⟩
        obtain ⟨a16, H16⟩ : ∃ a, Hid (a = (wordsTo s.data.toList k).getD i16 0) := ⟨_, rfl⟩
        obtain ⟨a15, H15⟩ : ∃ a, Hid (a = (wordsTo s.data.toList k).getD i15 0) := ⟨_, rfl⟩
        obtain ⟨a7, H7⟩ : ∃ a, Hid (a = (wordsTo s.data.toList k).getD i7 0) := ⟨_, rfl⟩
        obtain ⟨a2, H2⟩ : ∃ a, Hid (a = (wordsTo s.data.toList k).getD i2 0) := ⟨_, rfl⟩
        have hw16 := hblk.cell (wcells_at s.data.toList k i16 (by omega)); rw [← H16.out] at hw16
        have hw15 := hblk.cell (wcells_at s.data.toList k i15 (by omega)); rw [← H15.out] at hw15
        have hw7 := hblk.cell (wcells_at s.data.toList k i7 (by omega)); rw [← H7.out] at hw7
        have hw2 := hblk.cell (wcells_at s.data.toList k i2 (by omega)); rw [← H2.out] at hw2
        have l15' : a15 < 4294967296 := by rw [H15.out]; exact wordsTo_lt _ _ _
        have l2' : a2 < 4294967296 := by rw [H2.out]; exact wordsTo_lt _ _ _
        have HB := Lib.hid hblk; clear hblk
        have HR := Lib.hid hres; clear hres
        have hfin : Hid ((((a16 : Nat) : Int) + ((sg0 a15 : Nat) : Int) + ((a7 : Nat) : Int) + ((sg1 a2 : Nat) : Int)) % 4294967296 = ((nextWord s.data.toList (wordsTo s.data.toList k) : Nat) : Int)) := by
          show _ = _
          rw [nextWord_hi _ _ h16, H16.out, H15.out, H7.out, H2.out, h16', h15', h7', h2']
          simp
        have e16 : IntKind.i64.wrap ((k : Int) - 16) = i16 := by rw [IntWalk.i64_in _ (by omega)]; omega
        have e15 : IntKind.i64.wrap ((k : Int) - 15) = i15 := by rw [IntWalk.i64_in _ (by omega)]; omega
        have e7 : IntKind.i64.wrap ((k : Int) - 7) = i7 := by rw [IntWalk.i64_in _ (by omega)]; omega
        have e2 : IntKind.i64.wrap ((k : Int) - 2) = i2 := by rw [IntWalk.i64_in _ (by omega)]; omega
        have l16 : (i16 : Int) < 64 := by omega
        have l15 : (i15 : Int) < 64 := by omega
        have l7 : (i7 : Int) < 64 := by omega
        have l2 : (i2 : Int) < 64 := by omega
        clear h16' h15' h7' h2'
        go_wp2_with fail
        refine wp_region_still_tail 23 (by kernel_rfl) (by kernel_rfl) ?_
        simp only [List.take_succ_cons, List.take_zero, List.drop_succ_cons, List.drop_zero]
        iterate 9 still_step
        still_call (still_of (three_sg0 _ _ l15'))
        iterate 10 still_step
        still_call (still_of (three_sg1 _ _ l2'))
        iterate 2 still_step
        refine wpStill_nil ?_
        clear e16 e15 e7 e2
        go_wp2_with fail
        go_roundw
        case rel =>
          rw [hfin.out]
          refine ⟨k + 1, by omega, by go_num, ?_, ?_, ?_, ?_⟩
          · exact (HR.out.set_other (by simp) _).drew
          · exact ((HB.out.set k _).ext (wcells_set _ _ hlt)).drew
          · exact (hbel.setCell (by simp) _).drew
          · simpa using hsz
        case measure => simp [intOf]; omega
    · obtain rfl : k = 64 := by omega
      have HB := Lib.hid hblk; clear hblk
      have HR := Lib.hid hres; clear hres
      have hfin : Hid (wcells s.data.toList 64 = nums32 (wordsTo s.data.toList 64)) := wcells_end _
      have hlen : Hid ((nums32 (wordsTo s.data.toList 64)).length = 64) := by show _ = _; rw [nums32_length, wordsTo_length]
      have hlen2 : Hid ((nums32 (wordsTo s.data.toList 64)).length = (List.replicate 64 (Value.int .u32 0)).length) := by show _ = _; rw [hlen.out]; simp
      go_wp2_with (first
        | ((with_reducible refine wpList_load_blk 170 (.tmp 3) (w.heap.size + 1) (nums32 (wordsTo s.data.toList 64)) _ _ (HB.out.ext hfin.out) Try.underlying170 rfl (hi.out.trans (congrArg some hlen.out.symm)) ?hgd ?ho ?hx ?_); (case hgd => rfl); (case ho => rfl); (case hx => rfl))
        | ((with_reducible refine wpList_store_blk 170 (.tmp 2) (.tmp 41) w.heap.size _ (nums32 (wordsTo s.data.toList 64)) _ HR.out hlen2.out (hi.out.trans (congrArg some hlen.out.symm)) (nums32_one _) ?hgd ?ho ?hx ?hy ?_); (case hgd => rfl); (case ho => rfl); (case hx => rfl); (case hy => rfl))
        | ((with_reducible refine bodyPost_ret (v := .agg (nums32 (wordsTo s.data.toList 64)).toArray) ?hr ?hd ?hR)
           (case hd => rfl)
           (case hR => exact ⟨rfl, Below.setCells (Nat.le_refl _) _ _ hbel⟩)
           (case hr => exact results_cell_row rfl _ _ w.heap.size _ _ _ _ rfl (HR.out.setAll (nums32 (wordsTo s.data.toList 64)) hlen2.out) Try.underlying170 rfl (by rw [List.size_toArray, hlen.out]; exact hi.out))))
end Go.Proofs.Ytacoibiafpdoaaa
