/- Walks of the documents' Pad and Sum (chapter 02). -/
import Derived.Test.YtacoibiafpdoaaaRef4
namespace Go.Proofs.Ytacoibiafpdoaaa
open Go Go.RowKit
set_option linter.unusedVariables false

theorem wpStill_load_blk {P : Program} {ops : Array Oper} {rest : List Oper} {o : Oper} {a : Act} {w : World} {Q : Act → Prop}
    (ty : TypeId) (x : Operand) (b : Nat) (cs : List Value) (t : TypeId) (d : TypeDesc) (hb : Blk w b cs t)
    (hu : P.underlying ty = some d) (hd : d.isRow = true) (hi : (P.info? ty).map (·.size) = some cs.length)
    (hgd : o.guard = none) (ho : o.op = .load ty x) (hx : a.eval x = .pointer (some ⟨b, 0, none⟩))
    (h : wpStill P ops w Q rest (a.put o.dst (.agg cs.toArray))) : wpStill P ops w Q (o :: rest) a := by
  refine wpStill_step (fun K hK => ?_)
  have hw : Region.wanted o (yielded ops a.tmps) = true := by simp [Region.wanted, hgd]
  rw [if_pos hw]
  unfold Oper.still
  have e : (execOp a.eval o).run P w = .ok (.value (.agg cs.toArray)) w := by
    unfold execOp
    simp only [ho, hx, Instr.loadAt, Instr.sureAddr, Sem.run_bind, Sem.run_pure, Result.andThen_ok, run_loadVar_mid w b 0 ty cs d hb.range hu hd hi]
  rw [e, Oper.stillUpon_value]
  exact hK _ h

theorem rpad_tail (n k : Nat) (h : k ≤ 63 - (n + 8) % 64) : ((n : Int) + (1 + (k : Int))) % 64 = 56 ↔ k = 63 - (n + 8) % 64 := by omega

set_option maxRecDepth 100000 in
set_option maxHeartbeats 1000000 in
theorem rpad_walk (n : Nat) (w : World) (hn : n ≤ 1073741824) :
    Calls Try.prog 137 #[.int .i64 n] w fun e w' => ∃ r, e = .returned (.string r) ∧ Txt r (padL n) ∧ Below w.heap.size w w' := by
  have e1 : (n : Int) ≤ 1073741824 := by omega
  obtain ⟨m, Hm⟩ : ∃ m, Hid (m = 63 - (n + 8) % 64) := ⟨_, rfl⟩
  have hm : m ≤ 63 := by have := Hm.out; omega
  obtain ⟨p, hp, tp⟩ : ∃ q, str [128] = Value.string q ∧ Txt q [128] := ⟨_, rfl, Txt.mk _⟩
  have HP := Lib.hid hp; clear hp
  go_enter Try.func137, Try.ntmps137
  go_wp2_with (first
    | ((with_reducible refine wpList_slice_new 104 5 1 ?parts [.int .u8 128] (.int .u8 0) 1 1 (some 6) Try.underlying104 infoByte (by omega) (by omega) ?hgd ?ho ?hd ?hf ?_); (case hgd => rfl); (case ho => rfl); (case hd => rfl); (case hf => kernel_rfl); (intro g w1 l1 B1 e1' z1); (have HB1 : Hid (Blk w1 g (bytesV [128]) 5) := B1.ext rfl); (clear B1))
    | ((with_reducible refine wpList_string_bytes 104 9 5 (.tmp 6) [128] g 0 1 1 (some 7) Try.underlying104 Try.underlying5 Try.underlying9 HB1.out.range (List.length_singleton (a := (128 : UInt8))).symm ?hgd ?ho ?hd ?hx ?_); (case hgd => rfl); (case ho => rfl); (case hd => rfl); (case hx => rfl); (rw [HP.out])))
  have hbel0 := e1'.mono l1
  clear HB1 e1' l1 z1
  go_loopw [3] (fun v wr => ∃ (k : Nat) (r : ByteArray), k ≤ m ∧ v = .string r ∧ Txt r ([128] ++ List.replicate k 0) ∧ Below w.heap.size w wr) (fun v _ => 64 - txtLen v)
  case atStart => exact ⟨0, p, by omega, rfl, tp.cast (by simp), hbel0⟩
  case round =>
    clear hbel0 tp
    obtain ⟨k, r, hk, rfl, tr, hbel⟩ := hrel
    have hr : (r.size : Int) = 1 + (k : Int) := by rw [tr.size]; simp; omega
    have hr' : r.size = 1 + k := by omega
    have HR := Lib.hid hr'; clear hr'
    by_cases hlt : k < m
    · have hne : ¬ ((n : Int) + (1 + (k : Int))) % 64 = 56 := by
        have := Hm.out
        rw [rpad_tail n k (by omega)]; omega
      go_wp2_with fail
      refine (noughts_walk 1 _ (by omega) (by omega)).mono ?_
      rintro e w2 ⟨q, rfl, tq, hb2⟩
      have hq : q.size = 1 := by rw [tq.size]; rfl
      have hk63 : (k : Int) ≤ 63 := by omega
      go_wp2_with fail
      go_roundw
      case rel =>
        have y := hbel.size
        refine ⟨k + 1, _, by omega, rfl, (tr.append tq).cast ?_, hbel.trans (hb2.mono y)⟩
        rw [List.append_assoc, show (1 : Int).toNat = 1 from rfl, List.replicate_append_replicate]
      case measure =>
        have := HR.out
        simp [txtLen]
        omega
    · obtain rfl : k = m := by omega
      have hne : ((n : Int) + (1 + (k : Int))) % 64 = 56 := by
        have := Hm.out
        rw [rpad_tail n k (by omega)]; omega
      obtain ⟨q, Hq⟩ : ∃ q, Hid (q = 8 * n) := ⟨_, rfl⟩
      have e8 : (8 : Int) * (n : Int) = (q : Int) := by have := Hq.out; omega
      have hq : q ≤ 8589934592 := by have := Hq.out; omega
      have hk63 : (k : Int) ≤ 63 := by omega
      go_wp2_with fail
      refine (rput_walk q 8 _ (by omega)).mono ?_
      rintro e w2 ⟨he, hb2⟩
      obtain ⟨t, rfl, tt⟩ := he.yes ⟨by omega, by omega, by omega, by show q < 256 ^ 8; omega⟩
      clear he
      have ht : t.size = 8 := by rw [tt.size, beBytes_length]; rfl
      go_wp2_with fail
      go_ret
      refine ⟨_, rfl, (tr.append tt).cast ?_, hbel.trans (hb2.mono hbel.size)⟩
      rw [padL_eq, ← Hm.out, ← Hq.out]; rfl

set_option maxRecDepth 100000 in
set_option maxHeartbeats 1000000 in
theorem rsum_walk (s : ByteArray) (w : World) (hs : s.size ≤ 1073741824) :
    Calls Try.prog 104 #[.string s] w fun e w' => ∃ r, e = .returned (.string r) ∧ Txt r (sha s.data.toList) ∧ Below w.heap.size w w' := by
  have hl64 : Hid ((nums64 roundK).length = 64) := by show _ = _; rfl
  have hlz : Hid ((zeros64 64).length = 64) := by show _ = _; simp [zeros64]
  go_enter Try.func104, Try.ntmps104
  go_wp2_with fail
  refine (rpad_walk s.size _ hs).mono ?_
  rintro e w1 ⟨p, rfl, tp, hb1⟩
  have hp : p.size ≤ 72 := by rw [tp.size, padL_length]; omega
  go_wp2_with fail
  obtain ⟨all, hall⟩ : ∃ a, a = s ++ p := ⟨_, rfl⟩
  obtain ⟨L, HL⟩ : ∃ L, Hid (L = s.data.toList ++ padL s.size) := ⟨_, rfl⟩
  obtain ⟨N, HN⟩ : ∃ N, Hid (N = L.length / 64) := ⟨_, rfl⟩
  have tL : Txt all L := by rw [hall, HL.out]; exact (Txt.self s).append tp
  have hz : all.size = 64 * N := by
    rw [tL.size, HN.out, HL.out, List.length_append, padL_length, show s.data.toList.length = s.size from rfl]; omega
  have hz2 : all.size ≤ 1073741896 := by rw [hall, ByteArray.size_append]; omega
  rw [← hall]
  clear hall tp hp
  have HZ := Lib.hid hz; clear hz
  refine (rbegin_walk _).mono ?_
  rintro e w2 ⟨rfl, hb2⟩
  go_wp2_with fail
  refine (rrounds_walk _).mono ?_
  rintro e w3 ⟨rfl, hb3⟩
  go_wp2_with (first
    | ((with_reducible refine wpList_alloc_new 154 S8.zero.rcells rzero8 (some 4) ?hgd ?ho ?hd ?_); (case hgd => rfl); (case ho => rfl); (case hd => rfl); (intro b4 w4 l4 B4 e4 z4))
    | ((with_reducible refine wpList_alloc_new 156 (zeros64 64) rzero64 (some 5) ?hgd ?ho ?hd ?_); (case hgd => rfl); (case ho => rfl); (case hd => rfl); (intro b5 w5 l5 B5 e5 z5); (have B4' := B4.below e5 (by omega)))
    | ((with_reducible refine wpList_store_new 154 (.tmp 4) (.tmp 12) b4 S8.zero.rcells S8.first.rcells 154 B4' rfl (rsize8 S8.first) (S8.rcells_one _) ?hgd ?ho ?hx ?hy ?_); (case hgd => rfl); (case ho => rfl); (case hx => rfl); (case hy => rfl); (intro w6 B4w o6); (have B5' := o6.blk B5 (by omega)))
    | ((with_reducible refine wpList_store_new 156 (.tmp 5) (.tmp 13) b5 (zeros64 64) (nums64 roundK) 156 B5' (hl64.out.trans hlz.out.symm) (rsize64.trans (congrArg some hl64.out.symm)) (nums64_one _) ?hgd ?ho ?hx ?hy ?_); (case hgd => rfl); (case ho => rfl); (case hx => rfl); (case hy => rfl); (intro w7 B5w o7)))
  have q1 := hb1.size
  have q2 := hb2.size
  have q3 := hb3.size
  have q6 := o6.size
  have B4f : Hid (Blk w7 b4 (S8.rcells (blocks 0 S8.first L)) 154) := o7.blk B4w (by omega)
  have B5f : Hid (Blk w7 b5 (nums64 roundK) 156) := B5w
  have hbel : Hid (Below w.heap.size w w7) := o7.below (o6.below ((((hb1.trans (hb2.mono (by omega))).trans (hb3.mono (by omega))).trans (e4.mono (by omega))).trans (e5.mono (by omega))) (by omega)) (by omega)
  have hlo : w.heap.size ≤ b4 ∧ b4 < b5 := by omega
  clear B4 B5 B4' B5' B4w B5w o6 o7 e4 e5 hb1 hb2 hb3 q1 q2 q3 q6 l4 l5 z4 z5
  go_loopw [6] (fun i wr => ∃ k t : Nat, k ≤ N ∧ i = .int .i64 t ∧ t = 64 * k ∧ Blk wr b4 (S8.rcells (blocks k S8.first L)) 154 ∧ Blk wr b5 (nums64 roundK) 156 ∧ Below w.heap.size w wr) (fun i _ => all.size - (intOf i).toNat)
  case atStart => exact ⟨0, 0, by omega, rfl, rfl, B4f.out, B5f.out, hbel.out⟩
  case round =>
    clear B4f B5f hbel
    obtain ⟨k, t, hk, rfl, ht, h4, h5, hbel⟩ := hrel
    obtain ⟨st, Hst⟩ : ∃ st, Hid (st = blocks k S8.first L) := ⟨_, rfl⟩
    rw [← Hst.out] at h4
    have hok : st.ok := by rw [Hst.out]; exact blocks_ok k S8.first_ok L
    have HO := Lib.hid hok; clear hok
    have HT := Lib.hid ht; clear ht
    have H4 := Lib.hid h4; clear h4
    have H5 := Lib.hid h5; clear h5
    by_cases hlt : k < N
    · have hlt' : (t : Int) < all.size := by have := HT.out; have := HZ.out; omega
      have hle : (t : Int) + 64 ≤ all.size := by have := HT.out; have := HZ.out; omega
      have hle2 : (t : Int) ≤ (t : Int) + 64 := by omega
      have hle3 : (0 : Int) ≤ (t : Int) + 64 := by omega
      have ew : IntKind.i64.wrap ((t : Int) + 64) = (t : Int) + 64 := IntWalk.i64_in _ (by omega)
      go_wp2_with fail
      refine wp_region_still_tail_drew 7 (by kernel_rfl) (by kernel_rfl) ?_
      simp only [List.take_succ_cons, List.take_zero, List.drop_succ_cons, List.drop_zero]
      refine wpStill_load_blk 154 (.tmp 4) b4 st.rcells _ _ (H4.out.drewN 1) Try.underlying154 rfl (rsize8 st) rfl rfl rfl ?_
      iterate 5 still_step
      refine wpStill_load_blk 156 (.tmp 5) b5 (nums64 roundK) _ _ (H5.out.drewN 1) Try.underlying156 rfl (rsize64.trans (congrArg some hl64.out.symm)) rfl rfl rfl ?_
      refine wpStill_nil ?_
      go_wp2_with fail
      refine (rstep_walk st HO.out _ _ (by simp; omega)).mono ?_
      rintro e w8 ⟨rfl, hb8⟩
      obtain ⟨x, Hx⟩ : ∃ x, Hid (x = stp st (all.extract t (t + 64)).data.toList) := ⟨_, rfl⟩
      rw [← Hx.out]
      have B8 := Lib.hid ((H4.out.drewN 1).below hb8 (H4.out.drewN 1).lt)
      have B9 := Lib.hid ((H5.out.drewN 1).below hb8 (H5.out.drewN 1).lt)
      have hbel8 := Lib.hid ((Below.drewN hbel 1).trans (hb8.mono (Below.drewN hbel 1).size))
      clear hb8
      go_wp2_with ((with_reducible refine wpList_store_new 154 (.tmp 4) (.tmp 27) b4 st.rcells x.rcells 154 B8.out rfl (rsize8 x) (S8.rcells_one _) ?hgd ?ho ?hx ?hy ?_); (case hgd => rfl); (case ho => rfl); (case hx => rfl); (case hy => rfl); (intro w9 B4n o9))
      go_roundw
      case rel =>
        refine ⟨k + 1, t + 64, by omega, by simp, by have := HT.out; omega, B4n.ext ?_, o9.blk B9.out (by omega), o9.below hbel8.out (by omega)⟩
        rw [blocks_succ, ← Hst.out, Hx.out, tL.extract t (t + 64), List.drop_take, ← HT.out, show t + 64 - t = 64 by omega]
      case measure => simp [intOf]; omega
    · obtain rfl : k = N := by omega
      have hge : (all.size : Int) ≤ t := by have := HT.out; have := HZ.out; omega
      go_wp2_with ((with_reducible refine wpList_load_blk 154 (.tmp 4) b4 st.rcells 154 _ H4.out Try.underlying154 rfl (rsize8 st) ?hgd ?ho ?hx ?_); (case hgd => rfl); (case ho => rfl); (case hx => rfl))
      refine (rtext_walk st HO.out _).mono ?_
      rintro e w8 ⟨r, rfl, tr, hb8⟩
      go_wp2_with fail
      go_ret
      refine ⟨r, rfl, tr.cast ?_, hbel.trans (hb8.mono hbel.size)⟩
      rw [Hst.out, HN.out, HL.out]; rfl
end Go.Proofs.Ytacoibiafpdoaaa
