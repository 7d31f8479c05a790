/- Walks of wire's part: flag, ask, leaf, both ways (chapter 27). -/
import Derived.Test.YtkdplgcffdaoaaaWireP1
namespace Go.Proofs.Ytkdplgcffdaoaaa
set_option linter.unusedSimpArgs false
set_option linter.unusedVariables false
open Go Go.RowKit
set_option linter.unusedVariables false

theorem Turned.over {q b n : Nat} {u v w : World} (h : Turned [q, b] u v) (k : Turned [q, n] v w) (hn : u.heap.size ≤ n) : Turned [q, b] u w :=
  ⟨by rw [k.os, h.os], by rw [k.tape, h.tape], by rw [k.output, h.output], Nat.le_trans h.size k.size, fun i hi hs => by
    simp only [List.mem_cons, List.mem_nil_iff, or_false, not_or] at hs
    rw [k.block i (Nat.lt_of_lt_of_le hi h.size) (by simp only [List.mem_cons, List.mem_nil_iff, or_false, not_or]; exact ⟨hs.1, by omega⟩), h.block i hi (by simp only [List.mem_cons, List.mem_nil_iff, or_false, not_or]; exact hs)]⟩
set_option maxHeartbeats 2000000 in
theorem flag_any (q : Nat) (s : ByteArray) (rd br : Bool) (b i : Nat) (v : Bool) (cs : List Value) (t : TypeId) (w : World) (hp : PartAt w q s rd br) (hb : Blk w b cs t) (hi : cs[i]? = some (.bool v)) (hne : b ≠ q) (hs : s.size ≤ 1048576) :
    Calls Try.prog 73 #[.pointer (some ⟨q, 0, none⟩), .pointer (some ⟨b, i, none⟩)] w
      (Ends1 w q b rd br cs.length t (flagF rd v s.data.toList) (fun y => cs.set i (.bool y))) := by
  have HP := Lib.hid hp; have HBL := Lib.hid hb; have HI := Lib.hid hi
  clear hp hb hi
  cases v with
  | false =>
    go_enter Try.func73, Try.ntmps73
    go_wp2_with (first
      | ((with_reducible refine wpList_alloc_one 3 (.int .i64 0) (by intro w; kernel_rfl) rfl (some 4) ?hgd ?ho ?hd ?_); (case hgd => rfl); (case ho => rfl); (case hd => rfl); (intro b2 w2 l2 B2 e2 z2); have BB2 := HBL.out.below e2 (Nat.lt_of_lt_of_le HBL.out.lt l2); have cc2 := BB2.cell HI.out; have PP2 := HP.out.below e2 (Nat.lt_of_lt_of_le HP.out.lt l2))
      | ((with_reducible refine wpList_store_at 3 (.tmp 4) (.const (.int .i64 0)) b2 0 (.int .i64 0) _ _ B2 (by simp) (by kernel_rfl) rfl ?hgd ?ho ?hx ?hy ?_); (case hgd => rfl); (case ho => rfl); (case hx => rfl); (case hy => rfl); (intro w3 B3 o3); have BB3 := o3.blk BB2 (by have := HBL.out.lt; omega); have cc3 := BB3.cell HI.out; have PP3 : PartAt w3 q s rd br := o3.blk PP2 (by have := HP.out.lt; omega))
      | fail)
    have T0 : Turned [q, b] w w3 := ⟨by rw [o3.os, e2.os], by rw [o3.tape, e2.tape], by rw [o3.output, e2.output], by rw [o3.size]; exact e2.size, fun k hk hn => by rw [o3.block k (by omega), e2.block k (by omega)]⟩
    have hbq : b2 ≠ q := by have := HP.out.lt; omega
    have hbb : b ≠ b2 := by have := HBL.out.lt; omega
    have HB := Lib.hid BB3; have HPP := Lib.hid PP3; have HT := Lib.hid T0; have HN := Lib.hid B3
    have hl2 := Lib.hid l2
    clear BB2 BB3 PP2 PP3 cc2 cc3 B2 B3 o3 e2 z2 l2 T0
    refine (number_any q s rd br b2 0 1 0 [.int .i64 0] 3 _ HPP.out HN.out rfl hbq (by omega) (by omega) (fun _ => by decide) hs).mono ?_
    rintro e w5 he
    cases hn : numF rd 1 0 s.data.toList with
    | none =>
      rw [hn] at he
      obtain ⟨rfl, hbad⟩ := he
      have hF : flagF rd false s.data.toList = none := by unfold flagF; simp [hn]
      have HF := Lib.hid hF
      have HBAD := Lib.hid hbad
      clear hbad hn hF
      go_wp2_with fail
      refine ⟨rfl, ?_⟩
      rw [HF.out]
      exact ⟨rfl, ⟨cs, rfl, HBAD.out.turned.blk HB.out (by simp; omega)⟩, HT.out.over HBAD.out.turned hl2.out⟩
    | some p =>
      obtain ⟨n', s'⟩ := p
      rw [hn] at he
      obtain ⟨rfl, hd⟩ := he
      have hF : flagF rd false s.data.toList = some (decide (n' = 1), s') := by unfold flagF; simp [hn]
      have HF := Lib.hid hF
      have HD := Lib.hid hd
      have cN : w5.cell? ⟨b2, 0, none⟩ = some (.int .i64 n') := hd.blk.cell rfl
      have B5 : Blk w5 b cs t := hd.turned.blk HB.out (by simp; omega)
      have hil : i < cs.length := (List.getElem?_eq_some_iff.1 HI.out).1
      clear hd hn hF
      go_wp2_with (first
        | ((with_reducible refine wpList_store_at 4 (.tmp 13) (.tmp 12) b i (.bool (decide (n' = 1))) _ _ B5 hil (by kernel_rfl) rfl ?hgd ?ho ?hx ?hy ?_); (case hgd => rfl); (case ho => rfl); (case hx => rfl); (case hy => rfl); (intro w6 B6 o6))
        | fail)
      first | go_end0 | ((try simp only [Exit.inBlock, Exit.then]); refine bodyPost_ret (results_none rfl _ _ _) rfl ?_)
      obtain ⟨p, tp, hp5⟩ := HD.out.part
      rw [HF.out]
      refine ⟨rfl, ⟨p, tp, o6.blk hp5 (fun e => hne e.symm)⟩, B6, ?_⟩
      exact (HT.out.over HD.out.turned hl2.out).trans (o6.turned (by simp))
  | true =>
    go_enter Try.func73, Try.ntmps73
    go_wp2_with (first
      | ((with_reducible refine wpList_alloc_one 3 (.int .i64 0) (by intro w; kernel_rfl) rfl (some 4) ?hgd ?ho ?hd ?_); (case hgd => rfl); (case ho => rfl); (case hd => rfl); (intro b2 w2 l2 B2 e2 z2); have BB2 := HBL.out.below e2 (Nat.lt_of_lt_of_le HBL.out.lt l2); have cc2 := BB2.cell HI.out; have PP2 := HP.out.below e2 (Nat.lt_of_lt_of_le HP.out.lt l2))
      | ((with_reducible refine wpList_store_at 3 (.tmp 4) (.const (.int .i64 0)) b2 0 (.int .i64 0) _ _ B2 (by simp) (by kernel_rfl) rfl ?hgd ?ho ?hx ?hy ?_); (case hgd => rfl); (case ho => rfl); (case hx => rfl); (case hy => rfl); (intro w3 B3 o3); have BB3 := o3.blk BB2 (by have := HBL.out.lt; omega); have cc3 := BB3.cell HI.out; have PP3 : PartAt w3 q s rd br := o3.blk PP2 (by have := HP.out.lt; omega))
      | ((with_reducible refine wpList_store_at 3 (.tmp 4) (.const (.int .i64 1)) b2 0 (.int .i64 1) _ _ B3 (by simp) (by kernel_rfl) rfl ?hgd ?ho ?hx ?hy ?_); (case hgd => rfl); (case ho => rfl); (case hx => rfl); (case hy => rfl); (intro w4 B4 o4); have BB4 := o4.blk BB3 (by have := HBL.out.lt; omega); have PP4 : PartAt w4 q s rd br := o4.blk PP3 (by have := HP.out.lt; omega))
      | fail)
    have T0 : Turned [q, b] w w4 := ⟨by rw [o4.os, o3.os, e2.os], by rw [o4.tape, o3.tape, e2.tape], by rw [o4.output, o3.output, e2.output], by rw [o4.size, o3.size]; exact e2.size, fun k hk hn => by rw [o4.block k (by omega), o3.block k (by omega), e2.block k (by omega)]⟩
    have hbq : b2 ≠ q := by have := HP.out.lt; omega
    have hbb : b ≠ b2 := by have := HBL.out.lt; omega
    have HB := Lib.hid BB4; have HPP := Lib.hid PP4; have HT := Lib.hid T0; have HN := Lib.hid B4
    have hl2 := Lib.hid l2
    clear BB2 BB3 PP2 PP3 cc2 cc3 B2 B3 o3 e2 z2 l2 T0 BB4 PP4 B4 o4
    refine (number_any q s rd br b2 0 1 1 [.int .i64 1] 3 _ HPP.out HN.out rfl hbq (by omega) (by omega) (fun _ => by decide) hs).mono ?_
    rintro e w5 he
    cases hn : numF rd 1 1 s.data.toList with
    | none =>
      rw [hn] at he
      obtain ⟨rfl, hbad⟩ := he
      have hF : flagF rd true s.data.toList = none := by unfold flagF; simp [hn]
      have HF := Lib.hid hF
      have HBAD := Lib.hid hbad
      clear hbad hn hF
      go_wp2_with fail
      refine ⟨rfl, ?_⟩
      rw [HF.out]
      exact ⟨rfl, ⟨cs, rfl, HBAD.out.turned.blk HB.out (by simp; omega)⟩, HT.out.over HBAD.out.turned hl2.out⟩
    | some p =>
      obtain ⟨n', s'⟩ := p
      rw [hn] at he
      obtain ⟨rfl, hd⟩ := he
      have hF : flagF rd true s.data.toList = some (decide (n' = 1), s') := by unfold flagF; simp [hn]
      have HF := Lib.hid hF
      have HD := Lib.hid hd
      have cN : w5.cell? ⟨b2, 0, none⟩ = some (.int .i64 n') := hd.blk.cell rfl
      have B5 : Blk w5 b cs t := hd.turned.blk HB.out (by simp; omega)
      have hil : i < cs.length := (List.getElem?_eq_some_iff.1 HI.out).1
      clear hd hn hF
      go_wp2_with (first
        | ((with_reducible refine wpList_store_at 4 (.tmp 13) (.tmp 12) b i (.bool (decide (n' = 1))) _ _ B5 hil (by kernel_rfl) rfl ?hgd ?ho ?hx ?hy ?_); (case hgd => rfl); (case ho => rfl); (case hx => rfl); (case hy => rfl); (intro w6 B6 o6))
        | fail)
      first | go_end0 | ((try simp only [Exit.inBlock, Exit.then]); refine bodyPost_ret (results_none rfl _ _ _) rfl ?_)
      obtain ⟨p, tp, hp5⟩ := HD.out.part
      rw [HF.out]
      refine ⟨rfl, ⟨p, tp, o6.blk hp5 (fun e => hne e.symm)⟩, B6, ?_⟩
      exact (HT.out.over HD.out.turned hl2.out).trans (o6.turned (by simp))
end Go.Proofs.Ytkdplgcffdaoaaa
