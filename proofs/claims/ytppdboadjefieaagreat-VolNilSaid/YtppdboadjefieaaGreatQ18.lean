/- Products and the table of stand-ins (chapter 5): Mul, turned, boxes. A block's state (chapter 5): of, add, turn, mix, each. A block's state (chapter 5): add, mix, each. A block's state (chapter 5): mix. -/
import Derived.Test.YtppdboadjefieaaGreatQ17
import Derived.Test.YtppdboadjefieaaGreatQ8
import Derived.Test.YtppdboadjefieaaGreatQ7
import Derived.Test.YtppdboadjefieaaGreatQ4
import Derived.Laws.IdiomCopy
import Derived.IntWalk
set_option linter.unusedSimpArgs false
set_option linter.unusedVariables false
namespace Go.Proofs.YtppdboadjefieaaGreat
open Go Go.RowKit
set_option maxRecDepth 100000

theorem byte_all {P : UInt8 → Prop} (h : ∀ n : Fin 256, P (UInt8.ofNat n.val)) (b : UInt8) : P b := by
  have := h ⟨b.toNat, b.toNat_lt⟩
  simpa using this
theorem mul_bit1 (y : UInt8) : y &&& 1 = 1 ↔ (bits BinOp.and IntKind.u8 ((y.toNat : Nat) : Int) 1 == 1) = true := by
  refine byte_all (P := fun y => y &&& 1 = 1 ↔ (bits BinOp.and IntKind.u8 ((y.toNat : Nat) : Int) 1 == 1) = true) ?_ y
  decide +kernel
theorem mul_a (x : UInt8) : bits BinOp.xor IntKind.u8 (((x.toNat : Nat) : Int) * (2 : Int) % (256 : Int)) (((x.toNat : Nat) : Int) / (128 : Int) * (27 : Int)) = ((((x <<< 1) ^^^ ((x >>> 7) * 27)).toNat : Nat) : Int) := by
  refine byte_all (P := fun x => bits BinOp.xor IntKind.u8 (((x.toNat : Nat) : Int) * (2 : Int) % (256 : Int)) (((x.toNat : Nat) : Int) / (128 : Int) * (27 : Int)) = ((((x <<< 1) ^^^ ((x >>> 7) * 27)).toNat : Nat) : Int)) ?_ x
  decide +kernel
theorem mul_b (y : UInt8) : ((y.toNat : Nat) : Int) / (2 : Int) = (((y >>> 1).toNat : Nat) : Int) := by
  refine byte_all (P := fun y => ((y.toNat : Nat) : Int) / (2 : Int) = (((y >>> 1).toNat : Nat) : Int)) ?_ y
  decide +kernel
theorem mul_bits (x y : UInt8) : bits BinOp.xor IntKind.u8 (((x.toNat : Nat) : Int) * (2 : Int) % (256 : Int)) (((x.toNat : Nat) : Int) / (128 : Int) * (27 : Int)) = ((((x <<< 1) ^^^ ((x >>> 7) * 27)).toNat : Nat) : Int) ∧ ((y.toNat : Nat) : Int) / (2 : Int) = (((y >>> 1).toNat : Nat) : Int) := ⟨mul_a x, mul_b y⟩
theorem mul_one (n x y : UInt8) (h : (bits BinOp.and IntKind.u8 ((y.toNat : Nat) : Int) 1 == 1) = true) : mulStep (n, x, y) = (n ^^^ x, (x <<< 1) ^^^ ((x >>> 7) * 27), y >>> 1) := by
  unfold mulStep; rw [if_pos ((mul_bit1 y).2 h)]
theorem mul_none (n x y : UInt8) (h : (bits BinOp.and IntKind.u8 ((y.toNat : Nat) : Int) 1 == 1) = false) : mulStep (n, x, y) = (n, (x <<< 1) ^^^ ((x >>> 7) * 27), y >>> 1) := by
  unfold mulStep; rw [if_neg (fun h1 => by have h2 := (mul_bit1 y).1 h1; rw [h] at h2; cases h2)]
set_option maxHeartbeats 1000000 in
theorem mul_walk (a b : UInt8) (w : World) :
    Calls Tryz.prog 413 #[.int .u8 ((a.toNat : Nat) : Int), .int .u8 ((b.toNat : Nat) : Int)] w fun e w' => e = .returned (.int .u8 (((mulB a b).toNat : Nat) : Int)) ∧ w = w' := by
  go_enter Tryz.func413, Tryz.ntmps413
  go_wp2_with fail
  go_loop [0, 1, 5, 7] (fun x y n i => ∃ k : Nat, k ≤ 8 ∧ i = .int .i64 k ∧ n = .int .u8 (((mulTo a b k).1.toNat : Nat) : Int) ∧ x = .int .u8 (((mulTo a b k).2.1.toNat : Nat) : Int) ∧ y = .int .u8 (((mulTo a b k).2.2.toNat : Nat) : Int)) (fun _ _ _ i => 8 - (intOf i).toNat)
  case atStart => exact ⟨0, by omega, rfl, rfl, rfl, rfl⟩
  case round =>
    obtain ⟨k, hk, rfl, rfl, rfl, rfl⟩ := hrel
    by_cases hlt : k < 8
    · have hlt' : (k : Int) < 8 := by omega
      obtain ⟨s, hs⟩ : ∃ s, Hid (mulTo a b k = s) := ⟨_, rfl⟩
      have hs1 : mulTo a b (k + 1) = mulStep s := by rw [← hs.out]; rfl
      rw [hs.out]
      have HS1 := Lib.hid hs1
      clear hs1
      obtain ⟨n, x, y⟩ := s
      simp only
      have hx := x.toNat_lt
      have hy := y.toNat_lt
      have hn := n.toNat_lt
      have hb1 := Lib.hid (mul_bits x y)
      cases h1 : (bits BinOp.and IntKind.u8 ((y.toNat : Nat) : Int) 1 == 1) with
      | true =>
        have HK := Lib.hid (mul_one n x y h1)
        have HX := Lib.hid (u8_xor_nat n.toNat x.toNat (by simpa using hn) (by simpa using hx))
        go_wp2_with fail
        go_round
        case rel => exact ⟨k + 1, by omega, by go_num, by rw [HS1.out, HK.out]; show Value.int IntKind.u8 (bits BinOp.xor IntKind.u8 _ _) = _; rw [HX.out, UInt8.toNat_xor], by rw [HS1.out, HK.out, hb1.out.1], by rw [HS1.out, HK.out, hb1.out.2]⟩
        case measure => simp [intOf]; omega
      | false =>
        have HK := Lib.hid (mul_none n x y h1)
        go_wp2_with fail
        go_round
        case rel => exact ⟨k + 1, by omega, by go_num, by rw [HS1.out, HK.out], by rw [HS1.out, HK.out, hb1.out.1], by rw [HS1.out, HK.out, hb1.out.2]⟩
        case measure => simp [intOf]; omega
    · obtain rfl : k = 8 := by omega
      go_wp2_with fail
      go_ret
      exact ⟨rfl, rfl⟩

theorem turn_n1 (b : UInt8) : bits BinOp.or IntKind.u8 (((b.toNat : Nat) : Int) * (2 : Int) % (256 : Int)) (((b.toNat : Nat) : Int) / (128 : Int)) = (((turnB b 1).toNat : Nat) : Int) := by
  refine byte_all (P := fun b => bits BinOp.or IntKind.u8 (((b.toNat : Nat) : Int) * (2 : Int) % (256 : Int)) (((b.toNat : Nat) : Int) / (128 : Int)) = (((turnB b 1).toNat : Nat) : Int)) ?_ b
  decide +kernel
theorem turn_n2 (b : UInt8) : bits BinOp.or IntKind.u8 (((b.toNat : Nat) : Int) * (4 : Int) % (256 : Int)) (((b.toNat : Nat) : Int) / (64 : Int)) = (((turnB b 2).toNat : Nat) : Int) := by
  refine byte_all (P := fun b => bits BinOp.or IntKind.u8 (((b.toNat : Nat) : Int) * (4 : Int) % (256 : Int)) (((b.toNat : Nat) : Int) / (64 : Int)) = (((turnB b 2).toNat : Nat) : Int)) ?_ b
  decide +kernel
theorem turn_n3 (b : UInt8) : bits BinOp.or IntKind.u8 (((b.toNat : Nat) : Int) * (8 : Int) % (256 : Int)) (((b.toNat : Nat) : Int) / (32 : Int)) = (((turnB b 3).toNat : Nat) : Int) := by
  refine byte_all (P := fun b => bits BinOp.or IntKind.u8 (((b.toNat : Nat) : Int) * (8 : Int) % (256 : Int)) (((b.toNat : Nat) : Int) / (32 : Int)) = (((turnB b 3).toNat : Nat) : Int)) ?_ b
  decide +kernel
theorem turn_n4 (b : UInt8) : bits BinOp.or IntKind.u8 (((b.toNat : Nat) : Int) * (16 : Int) % (256 : Int)) (((b.toNat : Nat) : Int) / (16 : Int)) = (((turnB b 4).toNat : Nat) : Int) := by
  refine byte_all (P := fun b => bits BinOp.or IntKind.u8 (((b.toNat : Nat) : Int) * (16 : Int) % (256 : Int)) (((b.toNat : Nat) : Int) / (16 : Int)) = (((turnB b 4).toNat : Nat) : Int)) ?_ b
  decide +kernel
theorem turned_walk1 (b : UInt8) (w : World) :
    Calls Tryz.prog 414 #[.int .u8 ((b.toNat : Nat) : Int), .int .i64 1] w fun e w' => e = .returned (.int .u8 (((turnB b 1).toNat : Nat) : Int)) ∧ w' = w.drew := by
  have hb := b.toNat_lt
  have HT := Lib.hid (turn_n1 b)
  have hw7 : IntKind.i64.wrap 7 = 7 := by decide +kernel
  go_enter Tryz.func414, Tryz.ntmps414
  go_wp2_with fail
  refine wp_region_still_drew (by kernel_rfl) (by kernel_rfl) ?_
  iterate 9 still_step
  refine wpStill_nil ?_
  go_wp2_with fail
  go_ret
  refine ⟨?_, rfl⟩
  show Ending.returned (Value.int IntKind.u8 _) = _
  rw [← HT.out, IntKind.wrap_u8]
theorem turned_walk2 (b : UInt8) (w : World) :
    Calls Tryz.prog 414 #[.int .u8 ((b.toNat : Nat) : Int), .int .i64 2] w fun e w' => e = .returned (.int .u8 (((turnB b 2).toNat : Nat) : Int)) ∧ w' = w.drew := by
  have hb := b.toNat_lt
  have HT := Lib.hid (turn_n2 b)
  have hw7 : IntKind.i64.wrap 6 = 6 := by decide +kernel
  go_enter Tryz.func414, Tryz.ntmps414
  go_wp2_with fail
  refine wp_region_still_drew (by kernel_rfl) (by kernel_rfl) ?_
  iterate 9 still_step
  refine wpStill_nil ?_
  go_wp2_with fail
  go_ret
  refine ⟨?_, rfl⟩
  show Ending.returned (Value.int IntKind.u8 _) = _
  rw [← HT.out, IntKind.wrap_u8]
theorem turned_walk3 (b : UInt8) (w : World) :
    Calls Tryz.prog 414 #[.int .u8 ((b.toNat : Nat) : Int), .int .i64 3] w fun e w' => e = .returned (.int .u8 (((turnB b 3).toNat : Nat) : Int)) ∧ w' = w.drew := by
  have hb := b.toNat_lt
  have HT := Lib.hid (turn_n3 b)
  have hw7 : IntKind.i64.wrap 5 = 5 := by decide +kernel
  go_enter Tryz.func414, Tryz.ntmps414
  go_wp2_with fail
  refine wp_region_still_drew (by kernel_rfl) (by kernel_rfl) ?_
  iterate 9 still_step
  refine wpStill_nil ?_
  go_wp2_with fail
  go_ret
  refine ⟨?_, rfl⟩
  show Ending.returned (Value.int IntKind.u8 _) = _
  rw [← HT.out, IntKind.wrap_u8]
theorem turned_walk4 (b : UInt8) (w : World) :
    Calls Tryz.prog 414 #[.int .u8 ((b.toNat : Nat) : Int), .int .i64 4] w fun e w' => e = .returned (.int .u8 (((turnB b 4).toNat : Nat) : Int)) ∧ w' = w.drew := by
  have hb := b.toNat_lt
  have HT := Lib.hid (turn_n4 b)
  have hw7 : IntKind.i64.wrap 4 = 4 := by decide +kernel
  go_enter Tryz.func414, Tryz.ntmps414
  go_wp2_with fail
  refine wp_region_still_drew (by kernel_rfl) (by kernel_rfl) ?_
  iterate 9 still_step
  refine wpStill_nil ?_
  go_wp2_with fail
  go_ret
  refine ⟨?_, rfl⟩
  show Ending.returned (Value.int IntKind.u8 _) = _
  rw [← HT.out, IntKind.wrap_u8]
theorem zero256 (w : World) : Sem.run Tryz.prog (zeroValue 419) w = .ok (.agg (bytesV (List.replicate 256 0)).toArray) w := by kernel_rfl
theorem size256 {l : List UInt8} (h : l.length = 256) : (Tryz.prog.info? 419).map (·.size) = some (bytesV l).length := by rw [bytesV_length, h]; kernel_rfl
theorem byte_sz : (Tryz.prog.info? 5).map (·.size) = some 1 := by kernel_rfl
def boxX (q : UInt8) : UInt8 := q ^^^ turnB q 1 ^^^ turnB q 2 ^^^ turnB q 3 ^^^ turnB q 4 ^^^ 99
theorem xor_u8 (a b : UInt8) : bits BinOp.xor IntKind.u8 ((a.toNat : Nat) : Int) ((b.toNat : Nat) : Int) = (((a ^^^ b).toNat : Nat) : Int) := by
  rw [u8_xor_nat _ _ (by simpa using a.toNat_lt) (by simpa using b.toNat_lt), UInt8.toNat_xor]
set_option maxHeartbeats 2000000 in
theorem boxes_walk (w : World) :
    Calls Tryz.prog 368 #[] w fun e w' => e = .returned (.agg (bytesV boxL).toArray) ∧ Below w.heap.size w w' := by
  go_enter Tryz.func368, Tryz.ntmps368
  go_wp2_with (first
    | ((with_reducible refine wpList_alloc_new 419 _ zero256 (some 0) ?hgd ?ho ?hd ?_); (case hgd | ho | hd => rfl); (intro b0 w1 l1 B1 e1 z1))
    | ((with_reducible refine wpList_alloc_new 419 _ zero256 (some 1) ?hgd ?ho ?hd ?_); (case hgd | ho | hd => rfl); (intro b1 w2 l2 B2 e2 z2))
    | fail)
  have HL0 := Lib.hid l1
  have HL1 := Lib.hid (Nat.le_trans l1 (Nat.le_of_lt (Nat.lt_of_lt_of_le z1 l2)))
  have HN := Lib.hid (show b0 < b1 from Nat.lt_of_lt_of_le z1 l2)
  have hA := B1.below e2 (Nat.lt_of_lt_of_le z1 l2)
  have hbe := (e1.mono l1).trans (e2.mono HL1.out)
  clear B1 e1 e2 l1 l2 z1 z2
  go_loopw [2, 3, 4] (fun p q i wr => ∃ k : Nat, k ≤ 255 ∧ i = .int .i64 k ∧ p = .int .u8 (((boxTo k).1.toNat : Nat) : Int) ∧ q = .int .u8 (((boxTo k).2.1.toNat : Nat) : Int) ∧ Blk wr b1 (bytesV (boxTo k).2.2) 419 ∧ Blk wr b0 (bytesV (List.replicate 256 0)) 419 ∧ Below w.heap.size w wr) (fun _ _ i _ => 255 - (intOf i).toNat)
  case atStart => exact ⟨0, by omega, rfl, rfl, rfl, B2, hA, hbe⟩
  case round =>
    clear B2 hA hbe
    obtain ⟨k, hk, rfl, rfl, rfl, hB, hA, hbe⟩ := hrel
    have HB := Lib.hid hB
    have HA := Lib.hid hA
    have HBE := Lib.hid hbe
    clear hB hA hbe
    by_cases hlt : k < 255
    · have hlt' : (k : Int) < 255 := by omega
      obtain ⟨p, HP⟩ : ∃ p, Hid (p = mulB (boxTo k).1 3) := ⟨_, rfl⟩
      obtain ⟨q, HQ⟩ : ∃ q, Hid (q = mulB (boxTo k).2.1 246) := ⟨_, rfl⟩
      have HS := Lib.hid (show boxTo (k + 1) = (p, q, (boxTo k).2.2.set p.toNat (boxX q)) by rw [HP.out, HQ.out]; rfl)
      go_wp2_with fail
      refine (mul_walk (boxTo k).1 3 _).mono ?_
      rintro e w' ⟨rfl, rfl⟩
      rw [← HP.out]
      go_wp2_with fail
      refine (mul_walk (boxTo k).2.1 246 _).mono ?_
      rintro e w' ⟨rfl, rfl⟩
      rw [← HQ.out]
      go_wp2_with fail
      refine (turned_walk1 q _).mono ?_
      rintro e w' ⟨rfl, rfl⟩
      go_wp2_with fail
      refine (turned_walk2 q _).mono ?_
      rintro e w' ⟨rfl, rfl⟩
      go_wp2_with fail
      refine (turned_walk3 q _).mono ?_
      rintro e w' ⟨rfl, rfl⟩
      go_wp2_with fail
      refine (turned_walk4 q _).mono ?_
      rintro e w' ⟨rfl, rfl⟩
      obtain ⟨wz, hwz⟩ : ∃ wz, wz = wr.drew.drew.drew.drew := ⟨_, rfl⟩
      have HBz := Lib.hid (show Blk wz b1 (bytesV (boxTo k).2.2) 419 from by rw [hwz]; exact HB.out.drew.drew.drew.drew)
      have HAz := Lib.hid (show Blk wz b0 (bytesV (List.replicate 256 0)) 419 from by rw [hwz]; exact HA.out.drew.drew.drew.drew)
      have HBEz := Lib.hid (show Below w.heap.size w wz from by rw [hwz]; exact HBE.out.drew.drew.drew.drew)
      rw [← hwz]
      clear hwz
      have hp := p.toNat_lt
      have hp2 : p.toNat < 256 := by simpa using hp
      have hp3 : ((p.toNat : Nat) : Int) < 256 := by omega
      have hlen : p.toNat < (bytesV (boxTo k).2.2).length := by rw [bytesV_length, boxTo_length]; simpa using hp
      have cz := HBz.out.cell (bytesV_at (boxTo k).2.2 p.toNat (by rw [boxTo_length]; exact hp2))
      have fz := HBz.out.free p.toNat
      go_wp2_with fail
      go_roundw
      case rel =>
        refine ⟨k + 1, by omega, by go_num, by rw [HS.out], by rw [HS.out], ?_, HAz.out.set_other (a := ⟨b1, p.toNat, none⟩) (by have := HN.out; show b0 ≠ b1; omega) _, HBEz.out.setCell (p := ⟨b1, p.toNat, none⟩) HL1.out _⟩
        rw [HS.out, ← bytesV_set]
        refine (HBz.out.set p.toNat _).ext ?_
        rw [xor_u8, xor_u8, xor_u8, xor_u8, show (99 : Int) = (((99 : UInt8).toNat : Nat) : Int) from rfl, xor_u8]
        rfl
      case measure => simp [intOf]; omega
    · obtain rfl : k = 255 := by omega
      have c0 := HB.out.cell (bytesV_at (boxTo 255).2.2 0 (by rw [boxTo_length]; decide))
      have f0 := HB.out.free 0
      have HBB := Lib.hid (show Blk (wr.setCell ⟨b1, 0, none⟩ (.int .u8 99)) b1 (bytesV boxL) 419 from (HB.out.set 0 (.int .u8 (((99 : UInt8).toNat : Nat) : Int))).ext (show _ = bytesV boxL from by rw [bytesV_set]; rfl))
      have HAA := Lib.hid (HA.out.set_other (a := ⟨b1, 0, none⟩) (by have := HN.out; show b0 ≠ b1; omega) (.int .u8 99))
      have HBEE := Lib.hid (HBE.out.setCell (p := ⟨b1, 0, none⟩) HL1.out (.int .u8 99))
      have hlz : (bytesV boxL).length = (bytesV (List.replicate 256 0)).length := by rw [bytesV_length, bytesV_length, boxL_length, List.length_replicate]
      go_wp2_with (first
        | ((with_reducible refine wpList_load_blk 419 (.tmp 1) b1 (bytesV boxL) 419 _ HBB.out Tryz.underlying419 rfl (size256 boxL_length) ?hgd ?ho ?hx ?_); (case hgd | ho | hx => rfl))
        | ((with_reducible refine wpList_store_new 419 (.tmp 0) (.tmp 28) b0 (bytesV (List.replicate 256 0)) (bytesV boxL) 419 HAA.out hlz (size256 boxL_length) (bytesV_one _) ?hgd ?ho ?hx ?hy ?_); (case hgd | ho | hx | hy => rfl); (intro w9 B9 o9))
        | fail)
      (try simp only [Exit.inBlock, Exit.then]); refine bodyPost_ret (results_cell1v rfl _ _ B9.range rfl Tryz.underlying419 rfl (size256 boxL_length)) rfl ⟨rfl, o9.below HBEE.out HL0.out⟩
end Go.Proofs.YtppdboadjefieaaGreat

namespace Go.Proofs.YtppdboadjefieaaGreat
open Go Go.RowKit
set_option maxRecDepth 100000

section
variable {P : Program} {w : World}
theorem run_copy_part (dT sT ty elem : TypeId) (b off n cap : Nat) (t : ByteArray) (c : List Value) (bt : TypeId) (hu : P.underlying dT = some (.slice elem)) (hs : (P.info? elem).map (·.size) = some 1) (hb : Blk w b c bt) (hn : n ≤ t.size) (hfit : off + n ≤ c.length) :
    (Builtin.copy_ #[dT, sT] ty #[.slice (some ⟨b, off, none⟩) n cap, .string t]).run P w = .ok (goInt n) (w.setCells b off (bytesV (t.data.toList.take n))) := by
  have hmin : Nat.min t.size n = n := Nat.min_eq_right hn
  have hl : (bytesV (t.data.toList.take n)).length = n := by rw [bytesV_length, List.length_take]; have : t.data.toList.length = t.size := rfl; omega
  have hst := run_storeCells_cells (P := P) b off (bytesV (t.data.toList.take n)) 0 w (by rw [hl]; intro j hj; rw [hb.cell?]; simp; omega) (by rw [hl]; intro j hj; exact hb.free _) (bytesV_one _)
  have htk : List.take n (List.map (fun b : UInt8 => Value.int IntKind.u8 (b.toNat : Int)) t.data.toList) = bytesV (t.data.toList.take n) := by
    unfold bytesV; rw [List.map_take]
  cases hq : P.info? elem with
  | none => simp [hq] at hs
  | some i =>
    have hs1 : i.size = 1 := by simpa [hq] using hs
    simp [Builtin.copy_, run_underlying hu, Builtin.lenOf, Builtin.firstCells, sizeOf, typeInfo, hq, hs1, hmin]
    rw [htk, hst]
    simp [Result.andThen]
end
theorem blk_all {w : World} {b : Nat} {c cs : List Value} {t : TypeId} (h : Blk w b c t) (hl : cs.length = c.length) : Blk (w.setCells b 0 cs) b cs t := h.setAll cs hl
theorem zero16 (w : World) : Sem.run Tryz.prog (zeroValue 424) w = .ok (.agg (bytesV (List.replicate 16 0)).toArray) w := by kernel_rfl
theorem size16 {l : List UInt8} (h : l.length = 16) : (Tryz.prog.info? 424).map (·.size) = some (bytesV l).length := by rw [bytesV_length, h]; kernel_rfl
theorem size176 {l : List UInt8} (h : l.length = 176) : (Tryz.prog.info? 417).map (·.size) = some (bytesV l).length := by rw [bytesV_length, h]; kernel_rfl
set_option maxHeartbeats 1000000 in
theorem aesOf_walk (s : ByteArray) (w : World) (hs : s.size = 16) :
    Calls Tryz.prog 369 #[.string s] w fun e w' => e = .returned (.agg (bytesV s.data.toList).toArray) ∧ Below w.heap.size w w' := by
  have hl : s.data.toList.length = 16 := hs
  have hlz : (bytesV s.data.toList).length = (bytesV (List.replicate 16 0)).length := by rw [bytesV_length, bytesV_length, hl, List.length_replicate]
  have HS := Lib.hid hs
  have HL := Lib.hid hl
  have HLZ := Lib.hid hlz
  clear hs hl hlz
  go_enter Tryz.func369, Tryz.ntmps369
  go_wp2_with (first
    | ((with_reducible refine wpList_alloc_new 424 _ zero16 (some 2) ?hgd ?ho ?hd ?_); (case hgd | ho | hd => rfl); (intro b2 w1 l1 B1 e1 z1))
    | ((with_reducible refine wpList_alloc_new 424 _ zero16 (some 3) ?hgd ?ho ?hd ?_); (case hgd | ho | hd => rfl); (intro b3 w2 l2 B2 e2 z2; have B1' := B1.below e2 (Nat.lt_of_lt_of_le z1 l2); have hcp := run_copy_part (P := Tryz.prog) 121 9 3 5 b3 0 16 16 s _ _ Tryz.underlying121 byte_sz B2 (by rw [HS.out]; exact Nat.le_refl _) (by rw [bytesV_length]; simp); have htk : s.data.toList.take 16 = s.data.toList := List.take_of_length_le (by rw [HL.out]; exact Nat.le_refl _); rw [htk] at hcp; have B3' := blk_all B2 HLZ.out; have o3 := (Only.refl b3 w2).setCells (bytesV s.data.toList) 0; have B1'' := o3.blk B1' (by omega); clear htk))
    | ((with_reducible refine wpList_load_blk 424 (.tmp 3) b3 (bytesV s.data.toList) 424 _ B3' Tryz.underlying424 rfl (size16 HL.out) ?hgd ?ho ?hx ?_); (case hgd | ho | hx => rfl))
    | ((with_reducible refine wpList_store_new 424 (.tmp 2) (.tmp 7) b2 (bytesV (List.replicate 16 0)) (bytesV s.data.toList) 424 B1'' HLZ.out (size16 HL.out) (bytesV_one _) ?hgd ?ho ?hx ?hy ?_); (case hgd | ho | hx | hy => rfl); (intro w9 B9 o9))
    | fail)
  have hb3 : Below w.heap.size w (w2.setCells b3 0 (bytesV s.data.toList)) := o3.below ((e1.mono l1).trans (e2.mono (Nat.le_trans l1 (Nat.le_of_lt (Nat.lt_of_lt_of_le z1 l2))))) (Nat.le_trans l1 (Nat.le_of_lt (Nat.lt_of_lt_of_le z1 l2)))
  (try simp only [Exit.inBlock, Exit.then]); refine bodyPost_ret (results_cell1v rfl _ _ B9.range rfl Tryz.underlying424 rfl (size16 HL.out)) rfl ⟨rfl, o9.below hb3 l1⟩
theorem bytes_cell {w : World} {b : Nat} {x : List UInt8} {t : TypeId} (h : Blk w b (bytesV x) t) (j : Nat) (hj : j < x.length) : w.cell? ⟨b, j, none⟩ = some (.int .u8 (((x.getD j 0).toNat : Nat) : Int)) := by
  rw [h.cell (bytesV_at x j hj)]
  simp [List.getD, hj]
theorem turnL_eq (x : List UInt8) (hl : x.length = 16) : stepTo (fun i => x.getD ((i / 4 + i % 4) % 4 * 4 + i % 4) 0) x 16 = turnL x := by
  rw [stepTo_all _ _ _ hl]; rfl
set_option maxHeartbeats 4000000 in
theorem aesTurn_walk (xb : Nat) (x : List UInt8) (w : World) (h : Blk w xb (bytesV x) 424) (hl : x.length = 16) :
    Calls Tryz.prog 373 #[.pointer (some ⟨xb, 0, none⟩), .bool false] w fun e w' => e = .returned (.tuple #[]) ∧ Blk w' xb (bytesV (turnL x)) 424 ∧ Turned [xb] w w' := by
  have HX := Lib.hid h
  have HL := Lib.hid hl
  have hlz : (bytesV x).length = (bytesV (List.replicate 16 0)).length := by rw [bytesV_length, bytesV_length, hl, List.length_replicate]
  clear h hl
  go_enter Tryz.func373, Tryz.ntmps373
  go_wp2_with (first
    | ((with_reducible refine wpList_load_blk 424 (.tmp 9) xb (bytesV x) 424 _ HX.out Tryz.underlying424 rfl (size16 HL.out) ?hgd ?ho ?hx ?_); (case hgd | ho | hx => rfl))
    | ((with_reducible refine wpList_alloc_new 424 _ zero16 (some 4) ?hgd ?ho ?hd ?_); (case hgd | ho | hd => rfl); (intro b4 w1 l1 B1 e1 z1))
    | ((with_reducible refine wpList_store_new 424 (.tmp 4) (.tmp 10) b4 (bytesV (List.replicate 16 0)) (bytesV x) 424 B1 hlz (size16 HL.out) (bytesV_one _) ?hgd ?ho ?hx ?hy ?_); (case hgd | ho | hx | hy => rfl); (intro w2 B2 o2))
    | fail)
  have hb2 : Below w.heap.size w w2 := o2.below (e1.mono l1) l1
  have HN := Lib.hid (show xb < b4 from Nat.lt_of_lt_of_le HX.out.lt l1)
  have HX2 := Lib.hid (HX.out.below hb2 HX.out.lt)
  have HT2 := Lib.hid (Turned.of_below (S := [xb]) hb2 (Nat.le_refl _))
  clear B1 e1 z1 l1 o2 hb2
  go_loopw [11] (fun i wr => ∃ k : Nat, k ≤ 16 ∧ i = .int .i64 k ∧ Blk wr xb (bytesV (stepTo (fun i => x.getD ((i / 4 + i % 4) % 4 * 4 + i % 4) 0) x k)) 424 ∧ Blk wr b4 (bytesV x) 424 ∧ Turned [xb] w wr) (fun i _ => 16 - (intOf i).toNat)
  case atStart => exact ⟨0, by omega, rfl, by rw [stepTo_zero]; exact HX2.out, B2, HT2.out⟩
  case round =>
    clear B2
    obtain ⟨k, hk, rfl, hB, hW, ht⟩ := hrel
    have HB := Lib.hid hB
    have HW := Lib.hid hW
    have HT := Lib.hid ht
    clear hB hW ht
    by_cases hlt : k < 16
    · have HK := Lib.hid (show (stepTo (fun i => x.getD ((i / 4 + i % 4) % 4 * 4 + i % 4) 0) x k).length = 16 from by rw [stepTo_length _ _ _ (by rw [HL.out]; exact hk)]; exact HL.out)
      have hc := bytes_cell HB.out k (by rw [HK.out]; exact hlt)
      have hf := HB.out.free k
      have c0 := bytes_cell HW.out 0 (by rw [HL.out]; decide)
      have c1 := bytes_cell HW.out 1 (by rw [HL.out]; decide)
      have c2 := bytes_cell HW.out 2 (by rw [HL.out]; decide)
      have c3 := bytes_cell HW.out 3 (by rw [HL.out]; decide)
      have c4 := bytes_cell HW.out 4 (by rw [HL.out]; decide)
      have c5 := bytes_cell HW.out 5 (by rw [HL.out]; decide)
      have c6 := bytes_cell HW.out 6 (by rw [HL.out]; decide)
      have c7 := bytes_cell HW.out 7 (by rw [HL.out]; decide)
      have c8 := bytes_cell HW.out 8 (by rw [HL.out]; decide)
      have c9 := bytes_cell HW.out 9 (by rw [HL.out]; decide)
      have c10 := bytes_cell HW.out 10 (by rw [HL.out]; decide)
      have c11 := bytes_cell HW.out 11 (by rw [HL.out]; decide)
      have c12 := bytes_cell HW.out 12 (by rw [HL.out]; decide)
      have c13 := bytes_cell HW.out 13 (by rw [HL.out]; decide)
      have c14 := bytes_cell HW.out 14 (by rw [HL.out]; decide)
      have c15 := bytes_cell HW.out 15 (by rw [HL.out]; decide)
      have i0 : IntKind.i64.wrap 0 = 0 := by decide +kernel
      have i1 : IntKind.i64.wrap 1 = 1 := by decide +kernel
      have i2 : IntKind.i64.wrap 2 = 2 := by decide +kernel
      have i3 : IntKind.i64.wrap 3 = 3 := by decide +kernel
      have i4 : IntKind.i64.wrap 4 = 4 := by decide +kernel
      have i5 : IntKind.i64.wrap 5 = 5 := by decide +kernel
      have i6 : IntKind.i64.wrap 6 = 6 := by decide +kernel
      have i7 : IntKind.i64.wrap 7 = 7 := by decide +kernel
      have i8 : IntKind.i64.wrap 8 = 8 := by decide +kernel
      have i9 : IntKind.i64.wrap 9 = 9 := by decide +kernel
      have i10 : IntKind.i64.wrap 10 = 10 := by decide +kernel
      have i11 : IntKind.i64.wrap 11 = 11 := by decide +kernel
      have i12 : IntKind.i64.wrap 12 = 12 := by decide +kernel
      have i13 : IntKind.i64.wrap 13 = 13 := by decide +kernel
      have i14 : IntKind.i64.wrap 14 = 14 := by decide +kernel
      have i15 : IntKind.i64.wrap 15 = 15 := by decide +kernel
      have HSS := Lib.hid (stepTo_set (fun i => x.getD ((i / 4 + i % 4) % 4 * 4 + i % 4) 0) x k (by rw [HL.out]; exact hlt))
      obtain ⟨k1, hk1⟩ : ∃ k1, Hid (k1 = k + 1) := ⟨_, (rfl : k + 1 = k + 1)⟩
      have hcase : k = 0 ∨ k = 1 ∨ k = 2 ∨ k = 3 ∨ k = 4 ∨ k = 5 ∨ k = 6 ∨ k = 7 ∨ k = 8 ∨ k = 9 ∨ k = 10 ∨ k = 11 ∨ k = 12 ∨ k = 13 ∨ k = 14 ∨ k = 15 := by omega
      rcases hcase with rfl | rfl | rfl | rfl | rfl | rfl | rfl | rfl | rfl | rfl | rfl | rfl | rfl | rfl | rfl | rfl
      all_goals
        go_wp2_with fail
        refine wp_region_still_tail_drew 11 (by kernel_rfl) (by kernel_rfl) ?_
        simp only [List.take_succ_cons, List.take_zero, List.drop_succ_cons, List.drop_zero]
        iterate 11 still_step
        refine wpStill_nil ?_
        go_wp2_with fail
        go_roundw
        case rel => exact ⟨k1, by have := hk1.out; omega, by rw [hk1.out]; rfl, by rw [hk1.out, ← HSS.out, ← bytesV_set]; exact (HB.out.set _ _).drew, (HW.out.set_other (a := ⟨xb, _, none⟩) (by have := HN.out; show b4 ≠ xb; omega) _).drew, (HT.out.setCell (.inl (by simp)) _ _).drew⟩
        case measure => simp [intOf]
    · obtain rfl : k = 16 := by omega
      go_wp2_with fail
      go_end0
      exact ⟨rfl, by rw [← turnL_eq x HL.out]; exact HB.out, HT.out⟩
end Go.Proofs.YtppdboadjefieaaGreat

namespace Go.Proofs.YtppdboadjefieaaGreat
open Go Go.RowKit
set_option maxRecDepth 100000

def addF (x W : List UInt8) (r : Nat) (i : Nat) : UInt8 := x.getD i 0 ^^^ W.getD (16 * r + i) 0
theorem addL_eq (x W : List UInt8) (r : Nat) (hl : x.length = 16) : stepTo (addF x W r) x 16 = addL x W r := by
  rw [stepTo_all _ _ _ hl]; rfl
theorem bits_xor {a b : UInt8} {c : UInt8} (h : a ^^^ b = c) : Value.int IntKind.u8 (bits BinOp.xor IntKind.u8 ((a.toNat : Nat) : Int) ((b.toNat : Nat) : Int)) = .int .u8 ((c.toNat : Nat) : Int) := by
  rw [xor_u8, h]
set_option maxHeartbeats 4000000 in
theorem aesAdd_walk (xb r : Nat) (x W : List UInt8) (w : World) (h : Blk w xb (bytesV x) 424) (hl : x.length = 16) (hw : W.length = 176) (hr : r ≤ 10) :
    Calls Tryz.prog 370 #[.pointer (some ⟨xb, 0, none⟩), .agg (bytesV W).toArray, .int .i64 (r : Int)] w fun e w' => e = .returned (.tuple #[]) ∧ Blk w' xb (bytesV (addL x W r)) 424 ∧ Turned [xb] w w' := by
  have HX := Lib.hid h
  have HL := Lib.hid hl
  have HWL := Lib.hid hw
  obtain ⟨m0, m1, m2, m3, HM⟩ : ∃ m0 m1 m2 m3 : Nat, Hid (m0 = 4 * r ∧ m1 = m0 + 1 ∧ m2 = m0 + 2 ∧ m3 = m0 + 3 ∧ r ≤ 10) := ⟨4 * r, 4 * r + 1, 4 * r + 2, 4 * r + 3, rfl, rfl, rfl, rfl, hr⟩
  clear h hl hw
  go_enter Tryz.func370, Tryz.ntmps370
  go_wp2_with (first
    | ((with_reducible refine wpList_box_new 417 (.tmp 1) (bytesV W) (some 4) ?hgd ?ho ?hd ?hx ?_); (case hgd | ho | hd | hx => rfl); (intro b4 w1 l1 B1 e1 z1))
    | fail)
  have hb1 : Below w.heap.size w w1 := e1.mono l1
  have HN := Lib.hid (show xb < b4 from Nat.lt_of_lt_of_le HX.out.lt l1)
  have HX1 := Lib.hid (HX.out.below hb1 HX.out.lt)
  have HT1 := Lib.hid (Turned.of_below (S := [xb]) hb1 (Nat.le_refl _))
  clear e1 z1 l1 hb1
  go_loopw [7] (fun i wr => ∃ k : Nat, k ≤ 16 ∧ i = .int .i64 k ∧ Blk wr xb (bytesV (stepTo (addF x W r) x k)) 424 ∧ Blk wr b4 (bytesV W) 417 ∧ Turned [xb] w wr) (fun i _ => 16 - (intOf i).toNat)
  case atStart => exact ⟨0, by omega, rfl, by rw [stepTo_zero]; exact HX1.out, B1, HT1.out⟩
  case round =>
    clear B1
    obtain ⟨k, hk, rfl, hB, hS, ht⟩ := hrel
    have HB := Lib.hid hB
    have HS := Lib.hid hS
    have HT := Lib.hid ht
    clear hB hS ht
    by_cases hlt : k < 16
    · have HK := Lib.hid (show (stepTo (addF x W r) x k).length = 16 from by rw [stepTo_length _ _ _ (by rw [HL.out]; exact hk)]; exact HL.out)
      have hc := bytes_cell HB.out k (by rw [HK.out]; exact hlt)
      have hat : (stepTo (addF x W r) x k).getD k 0 = x.getD k 0 := by rw [List.getD, List.getD, stepTo_at _ _ _ _ (Nat.le_refl _) (by rw [HL.out]; exact hk)]
      rw [hat] at hc
      clear hat
      have hf := HB.out.free k
      have d0 := bytes_cell HS.out (m0 * 4) (by rw [HWL.out]; have := HM.out; omega)
      have d1 := bytes_cell HS.out (m0 * 4 + 1) (by rw [HWL.out]; have := HM.out; omega)
      have d2 := bytes_cell HS.out (m0 * 4 + 2) (by rw [HWL.out]; have := HM.out; omega)
      have d3 := bytes_cell HS.out (m0 * 4 + 3) (by rw [HWL.out]; have := HM.out; omega)
      have d4 := bytes_cell HS.out (m1 * 4) (by rw [HWL.out]; have := HM.out; omega)
      have d5 := bytes_cell HS.out (m1 * 4 + 1) (by rw [HWL.out]; have := HM.out; omega)
      have d6 := bytes_cell HS.out (m1 * 4 + 2) (by rw [HWL.out]; have := HM.out; omega)
      have d7 := bytes_cell HS.out (m1 * 4 + 3) (by rw [HWL.out]; have := HM.out; omega)
      have d8 := bytes_cell HS.out (m2 * 4) (by rw [HWL.out]; have := HM.out; omega)
      have d9 := bytes_cell HS.out (m2 * 4 + 1) (by rw [HWL.out]; have := HM.out; omega)
      have d10 := bytes_cell HS.out (m2 * 4 + 2) (by rw [HWL.out]; have := HM.out; omega)
      have d11 := bytes_cell HS.out (m2 * 4 + 3) (by rw [HWL.out]; have := HM.out; omega)
      have d12 := bytes_cell HS.out (m3 * 4) (by rw [HWL.out]; have := HM.out; omega)
      have d13 := bytes_cell HS.out (m3 * 4 + 1) (by rw [HWL.out]; have := HM.out; omega)
      have d14 := bytes_cell HS.out (m3 * 4 + 2) (by rw [HWL.out]; have := HM.out; omega)
      have d15 := bytes_cell HS.out (m3 * 4 + 3) (by rw [HWL.out]; have := HM.out; omega)
      have i0 : IntKind.i64.wrap 0 = 0 := by decide +kernel
      have i1 : IntKind.i64.wrap 1 = 1 := by decide +kernel
      have i2 : IntKind.i64.wrap 2 = 2 := by decide +kernel
      have i3 : IntKind.i64.wrap 3 = 3 := by decide +kernel
      have i4 : IntKind.i64.wrap 4 = 4 := by decide +kernel
      have i5 : IntKind.i64.wrap 5 = 5 := by decide +kernel
      have i6 : IntKind.i64.wrap 6 = 6 := by decide +kernel
      have i7 : IntKind.i64.wrap 7 = 7 := by decide +kernel
      have i8 : IntKind.i64.wrap 8 = 8 := by decide +kernel
      have i9 : IntKind.i64.wrap 9 = 9 := by decide +kernel
      have i10 : IntKind.i64.wrap 10 = 10 := by decide +kernel
      have i11 : IntKind.i64.wrap 11 = 11 := by decide +kernel
      have i12 : IntKind.i64.wrap 12 = 12 := by decide +kernel
      have i13 : IntKind.i64.wrap 13 = 13 := by decide +kernel
      have i14 : IntKind.i64.wrap 14 = 14 := by decide +kernel
      have i15 : IntKind.i64.wrap 15 = 15 := by decide +kernel
      have i16 : IntKind.i64.wrap 16 = 16 := by decide +kernel
      have n0 : IntKind.i64.wrap (4 * (r : Int)) = (m0 : Int) := by rw [IntWalk.i64_in _ (by have := HM.out; omega)]; have := HM.out; omega
      have o0 : IntKind.i64.wrap (m0 : Int) = (m0 : Int) := by rw [IntWalk.i64_in _ (by have := HM.out; omega)]
      have o1 : IntKind.i64.wrap ((m0 : Int) + 1) = (m1 : Int) := by rw [IntWalk.i64_in _ (by have := HM.out; omega)]; have := HM.out; omega
      have o2 : IntKind.i64.wrap ((m0 : Int) + 2) = (m2 : Int) := by rw [IntWalk.i64_in _ (by have := HM.out; omega)]; have := HM.out; omega
      have o3 : IntKind.i64.wrap ((m0 : Int) + 3) = (m3 : Int) := by rw [IntWalk.i64_in _ (by have := HM.out; omega)]; have := HM.out; omega
      have p0 : (m0 : Int) < 44 := by have := HM.out; omega
      have p1 : (m1 : Int) < 44 := by have := HM.out; omega
      have p2 : (m2 : Int) < 44 := by have := HM.out; omega
      have p3 : (m3 : Int) < 44 := by have := HM.out; omega
      have HSS := Lib.hid (stepTo_set (addF x W r) x k (by rw [HL.out]; exact hlt))
      have HAF := Lib.hid (fun (j : Nat) (hj : j = 16 * r + k) => (show x.getD k 0 ^^^ W.getD j 0 = addF x W r k by rw [hj]; rfl))
      obtain ⟨k1, hk1⟩ : ∃ k1, Hid (k1 = k + 1) := ⟨_, (rfl : k + 1 = k + 1)⟩
      have hcase : k = 0 ∨ k = 1 ∨ k = 2 ∨ k = 3 ∨ k = 4 ∨ k = 5 ∨ k = 6 ∨ k = 7 ∨ k = 8 ∨ k = 9 ∨ k = 10 ∨ k = 11 ∨ k = 12 ∨ k = 13 ∨ k = 14 ∨ k = 15 := by omega
      rcases hcase with rfl | rfl | rfl | rfl | rfl | rfl | rfl | rfl | rfl | rfl | rfl | rfl | rfl | rfl | rfl | rfl
      all_goals
        go_wp2_with fail
        refine wp_region_still_tail_drew 18 (by kernel_rfl) (by kernel_rfl) ?_
        simp only [List.take_succ_cons, List.take_zero, List.drop_succ_cons, List.drop_zero]
        iterate 18 still_step
        refine wpStill_nil ?_
        go_wp2_with fail
        go_roundw
        case rel => exact ⟨k1, by have := hk1.out; omega, by rw [hk1.out]; rfl, by rw [hk1.out, ← HSS.out, ← bytesV_set]; refine Blk.ext (HB.out.set _ _).drew (congrArg (fun v => (bytesV (stepTo (addF x W r) x _)).set _ v) (bits_xor (HAF.out _ ?_))); have := HM.out; omega, (HS.out.set_other (a := ⟨xb, _, none⟩) (by have := HN.out; show b4 ≠ xb; omega) _).drew, (HT.out.setCell (.inl (by simp)) _ _).drew⟩
        case measure => simp [intOf]
    · obtain rfl : k = 16 := by omega
      go_wp2_with fail
      go_end0
      exact ⟨rfl, by rw [← addL_eq x W r HL.out]; exact HB.out, HT.out⟩
end Go.Proofs.YtppdboadjefieaaGreat

namespace Go.Proofs.YtppdboadjefieaaGreat
open Go Go.RowKit
set_option maxRecDepth 100000

theorem size4b {l : List UInt8} (h : l.length = 4) : (Tryz.prog.info? 415).map (·.size) = some (bytesV l).length := by rw [bytesV_length, h]; kernel_rfl
structure MixAt (w wr : World) (xb b4 b3 : Nat) (cur x by4 : List UInt8) : Prop where
  cur : Blk wr xb (bytesV cur) 424
  was : Blk wr b4 (bytesV x) 424
  by4 : Blk wr b3 (bytesV by4) 415
  t : Turned [xb] w wr
theorem MixAt.drew {w wr : World} {xb b4 b3 : Nat} {cur x by4 : List UInt8} (h : MixAt w wr xb b4 b3 cur x by4) : MixAt w wr.drew xb b4 b3 cur x by4 := ⟨h.cur.drew, h.was.drew, h.by4.drew, h.t.drew⟩
theorem mixL_eq (x by4 : List UInt8) (hl : x.length = 16) : stepTo (fun i => mixTo x by4 i 4) x 16 = mixL x by4 := by
  rw [stepTo_all _ _ _ hl]; rfl
set_option maxHeartbeats 8000000 in
theorem aesMix_walk (xb : Nat) (x by4 : List UInt8) (w : World) (h : Blk w xb (bytesV x) 424) (hl : x.length = 16) (h4 : by4.length = 4) :
    Calls Tryz.prog 374 #[.pointer (some ⟨xb, 0, none⟩), .agg (bytesV by4).toArray] w fun e w' => e = .returned (.tuple #[]) ∧ Blk w' xb (bytesV (mixL x by4)) 424 ∧ Turned [xb] w w' := by
  have HX := Lib.hid h
  have HL := Lib.hid hl
  have H4 := Lib.hid h4
  have hlz : (bytesV x).length = (bytesV (List.replicate 16 0)).length := by rw [bytesV_length, bytesV_length, hl, List.length_replicate]
  clear h hl h4
  go_enter Tryz.func374, Tryz.ntmps374
  go_wp2_with (first
    | ((with_reducible refine wpList_box_new 415 (.tmp 1) (bytesV by4) (some 3) ?hgd ?ho ?hd ?hx ?_); (case hgd | ho | hd | hx => rfl); (intro b3 w0 l0 B0 e0 z0; have X0 := HX.out.below (e0.mono l0) HX.out.lt))
    | ((with_reducible refine wpList_load_blk 424 (.tmp 11) xb (bytesV x) 424 _ X0 Tryz.underlying424 rfl (size16 HL.out) ?hgd ?ho ?hx ?_); (case hgd | ho | hx => rfl))
    | ((with_reducible refine wpList_alloc_new 424 _ zero16 (some 4) ?hgd ?ho ?hd ?_); (case hgd | ho | hd => rfl); (intro b4 w1 l1 B1 e1 z1))
    | ((with_reducible refine wpList_store_new 424 (.tmp 4) (.tmp 12) b4 (bytesV (List.replicate 16 0)) (bytesV x) 424 B1 hlz (size16 HL.out) (bytesV_one _) ?hgd ?ho ?hx ?hy ?_); (case hgd | ho | hx | hy => rfl); (intro w2 B2 o2))
    | fail)
  have hb1 : Below w0.heap.size w0 w2 := o2.below (e1.mono l1) l1
  have hb2 : Below w.heap.size w w2 := (e0.mono l0).trans (hb1.mono (Nat.le_trans l0 (Nat.le_of_lt z0)))
  have HN := Lib.hid (show xb < b3 ∧ b3 < b4 from ⟨Nat.lt_of_lt_of_le HX.out.lt l0, Nat.lt_of_lt_of_le z0 l1⟩)
  have HI := Lib.hid (show MixAt w w2 xb b4 b3 (stepTo (fun i => mixTo x by4 i 4) x 0) x by4 from ⟨by rw [stepTo_zero]; exact HX.out.below hb2 HX.out.lt, B2, B0.below hb1 z0, Turned.of_below hb2 (Nat.le_refl _)⟩)
  clear B0 e0 z0 l0 X0 B1 B2 e1 z1 l1 o2 hb1 hb2
  go_loopw [13] (fun i wr => ∃ k : Nat, k ≤ 16 ∧ i = .int .i64 k ∧ MixAt w wr xb b4 b3 (stepTo (fun i => mixTo x by4 i 4) x k) x by4) (fun i _ => 16 - (intOf i).toNat)
  case atStart => exact ⟨0, by omega, rfl, HI.out⟩
  case round =>
    clear HI
    obtain ⟨k, hk, rfl, hI⟩ := hrel
    have HI := Lib.hid hI
    clear hI
    by_cases hlt : k < 16
    · obtain ⟨c, r, hcr⟩ : ∃ c r : Nat, Hid (k = 4 * c + r ∧ r < 4 ∧ c < 4) := ⟨k / 4, k % 4, by show _ ∧ _ ∧ _; omega⟩
      have hq : ((k : Nat) : Int) / 4 = (c : Int) := by have := hcr.out; omega
      have hd16 : decide (((k : Nat) : Int) < 16) = true := decide_eq_true (by omega)
      obtain ⟨m, HM⟩ : ∃ m : Nat, Hid (m = 4 * c) := ⟨_, (rfl : 4 * c = 4 * c)⟩
      have HKL := Lib.hid (show (stepTo (fun i => mixTo x by4 i 4) x k).length = 16 from by rw [stepTo_length _ _ _ (by rw [HL.out]; exact hk)]; exact HL.out)
      have HSS := Lib.hid (stepTo_set (fun i => mixTo x by4 i 4) x k (by rw [HL.out]; exact hlt))
      obtain ⟨k1, hk1⟩ : ∃ k1, Hid (k1 = k + 1) := ⟨_, (rfl : k + 1 = k + 1)⟩
      have hcase : (r = 0 ∧ ((k : Nat) : Int) % 4 = 0) ∨ (r = 1 ∧ ((k : Nat) : Int) % 4 = 1) ∨ (r = 2 ∧ ((k : Nat) : Int) % 4 = 2) ∨ (r = 3 ∧ ((k : Nat) : Int) % 4 = 3) := by have := hcr.out; omega
      rcases hcase with ⟨rfl, hrm⟩ | ⟨rfl, hrm⟩ | ⟨rfl, hrm⟩ | ⟨rfl, hrm⟩
      all_goals
        go_wp2_with fail
        (try rw [hrm])
        go_loopw [8, 20] (fun n j wq => ∃ kk : Nat, kk ≤ 4 ∧ j = .int .i64 kk ∧ n = .int .u8 (((mixTo x by4 k kk).toNat : Nat) : Int) ∧ MixAt w wq xb b4 b3 (stepTo (fun i => mixTo x by4 i 4) x k) x by4) (fun _ j _ => 4 - (intOf j).toNat)
        case atStart => exact ⟨0, by omega, rfl, rfl, HI.out⟩
        case round =>
          obtain ⟨kk, hkk, rfl, rfl, hJ⟩ := hrel
          have HJ := Lib.hid hJ
          clear hJ
          by_cases hlt4 : kk < 4
          · have d0 := bytes_cell HJ.out.was m (by rw [HL.out]; have := HM.out; have := hcr.out; omega)
            have d1 := bytes_cell HJ.out.was (m + 1) (by rw [HL.out]; have := HM.out; have := hcr.out; omega)
            have d2 := bytes_cell HJ.out.was (m + 2) (by rw [HL.out]; have := HM.out; have := hcr.out; omega)
            have d3 := bytes_cell HJ.out.was (m + 3) (by rw [HL.out]; have := HM.out; have := hcr.out; omega)
            have f0 := bytes_cell HJ.out.by4 0 (by rw [H4.out]; decide)
            have f1 := bytes_cell HJ.out.by4 1 (by rw [H4.out]; decide)
            have f2 := bytes_cell HJ.out.by4 2 (by rw [H4.out]; decide)
            have f3 := bytes_cell HJ.out.by4 3 (by rw [H4.out]; decide)
            have i0 : IntKind.i64.wrap 0 = 0 := by decide +kernel
            have i1 : IntKind.i64.wrap 1 = 1 := by decide +kernel
            have i2 : IntKind.i64.wrap 2 = 2 := by decide +kernel
            have i3 : IntKind.i64.wrap 3 = 3 := by decide +kernel
            have i4 : IntKind.i64.wrap 4 = 4 := by decide +kernel
            have i5 : IntKind.i64.wrap 5 = 5 := by decide +kernel
            have i6 : IntKind.i64.wrap 6 = 6 := by decide +kernel
            have i7 : IntKind.i64.wrap 7 = 7 := by decide +kernel
            have i8 : IntKind.i64.wrap 8 = 8 := by decide +kernel
            have n0 : IntKind.i64.wrap ((c : Int) * 4) = (m : Int) := by rw [IntWalk.i64_in _ (by have := HM.out; have := hcr.out; omega)]; have := HM.out; omega
            have o0 : IntKind.i64.wrap (m : Int) = (m : Int) := by rw [IntWalk.i64_in _ (by have := HM.out; have := hcr.out; omega)]
            have o1 : IntKind.i64.wrap ((m : Int) + 1) = ((m + 1 : Nat) : Int) := by rw [IntWalk.i64_in _ (by have := HM.out; have := hcr.out; omega)]; omega
            have o2 : IntKind.i64.wrap ((m : Int) + 2) = ((m + 2 : Nat) : Int) := by rw [IntWalk.i64_in _ (by have := HM.out; have := hcr.out; omega)]; omega
            have o3 : IntKind.i64.wrap ((m : Int) + 3) = ((m + 3 : Nat) : Int) := by rw [IntWalk.i64_in _ (by have := HM.out; have := hcr.out; omega)]; omega
            have p0 : (m : Int) < 16 := by have := HM.out; have := hcr.out; omega
            have p1 : 0 ≤ (m : Int) + 1 := by omega
            have q1 : (m : Int) + 1 < 16 := by have := HM.out; have := hcr.out; omega
            have p2 : 0 ≤ (m : Int) + 2 := by omega
            have q2 : (m : Int) + 2 < 16 := by have := HM.out; have := hcr.out; omega
            have p3 : 0 ≤ (m : Int) + 3 := by omega
            have q3 : (m : Int) + 3 < 16 := by have := HM.out; have := hcr.out; omega
            have t2 : ((m : Int) + 2).toNat = m + 2 := by omega
            have t3 : ((m : Int) + 3).toNat = m + 3 := by omega
            have HMX := Lib.hid (fun (j1 j2 : Nat) (h1 : j1 = k / 4 * 4 + kk) (h2 : j2 = (kk + 4 - k % 4) % 4) => (show mixTo x by4 k kk ^^^ mulB (x.getD j1 0) (by4.getD j2 0) = mixTo x by4 k (kk + 1) by rw [h1, h2]; rfl))
            obtain ⟨kk1, hkk1⟩ : ∃ k1, Hid (k1 = kk + 1) := ⟨_, (rfl : kk + 1 = kk + 1)⟩
            have hcase4 : kk = 0 ∨ kk = 1 ∨ kk = 2 ∨ kk = 3 := by omega
            rcases hcase4 with rfl | rfl | rfl | rfl
            all_goals
              go_wp2_with fail
              refine wp_region_still_drew (by kernel_rfl) (by kernel_rfl) ?_
              iterate 14 still_step
              still_call (still_of (mul_walk _ _ _))
              repeat still_step
              refine wpStill_nil ?_
              go_wp2_with fail
              go_roundw
              case rel => exact ⟨kk1, by have := hkk1.out; omega, by rw [hkk1.out]; rfl, by rw [hkk1.out]; exact bits_xor (HMX.out _ _ (by have := HM.out; have := hcr.out; omega) (by have := hcr.out; omega)), HJ.out.drew⟩
              case measure => simp [intOf]
          · obtain rfl : kk = 4 := by omega
            have hc := bytes_cell HJ.out.cur k (by rw [HKL.out]; exact hlt)
            have hf := HJ.out.cur.free k
            have hk9 : ((k : Nat) : Int) < 16 := by omega
            go_wp2_with fail
            go_roundw
            case rel => exact ⟨k1, by have := hk1.out; omega, by rw [hk1.out]; go_num, by rw [hk1.out, ← HSS.out, ← bytesV_set]; exact HJ.out.cur.set _ _, HJ.out.was.set_other (a := ⟨xb, k, none⟩) (by have := HN.out; show b4 ≠ xb; omega) _, HJ.out.by4.set_other (a := ⟨xb, k, none⟩) (by have := HN.out; show b3 ≠ xb; omega) _, HJ.out.t.setCell (.inl (by simp)) _ _⟩
            case measure => simp [intOf]; omega
    · obtain rfl : k = 16 := by omega
      go_wp2_with fail
      go_end0
      exact ⟨rfl, by rw [← mixL_eq x by4 HL.out]; exact HI.out.cur, HI.out.t⟩
end Go.Proofs.YtppdboadjefieaaGreat

