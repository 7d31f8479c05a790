/- Two rows of sealed records: the first place at which they part (chapter 20, P20.5). No program in sight. Code that is walked in the body of a range over a function, by the laws of a plain walk: operation by operation, region by region. No program in sight. Walk of chain.both and its closure (chapter 20): a range over a function that hands on at most one place. -/
import Derived.Test.YtidekfbgjghcjaaGreatG8
import Derived.RangeFuncFrom
import Derived.RangeFuncCalls
import Derived.RangeFuncLeaves
import Derived.TacticsIn
import Derived.OrdersIn
import Derived.Still
import Derived.StillTail
import Derived.StillTailTactics
import Derived.WalkKit
import Derived.ProofKit
import Derived.Deep.MidRow
import Derived.Laws.StructEq
import Derived.Test.YtidekfbgjghcjaaGreatG9
import Derived.Test.YtidekfbgjghcjaaGreatSeal1
import Derived.Deep.QuietTactic
import Derived.BigQuiet
import Derived.RangeFuncNested
import Derived.RangeFuncBound
import Derived.Shelf.Abstract
import Derived.Shelf.RegionOpen
import Derived.OwnWalkIn
import Derived.TacticsInMore
import Derived.LoopNIn
import Derived.LoopIn
namespace Go.Proofs.YtidekfbgjghcjaaGreat
set_option linter.unusedSimpArgs false
set_option linter.unusedVariables false
open Go

def RowPart (l m : List Sld) (k : Nat) : Prop := k < m.length ∧ l[k]? ≠ m[k]? ∧ ∀ j, j < k → l[j]? = m[j]?
def NoPart (l m : List Sld) : Prop := ∀ j, j < m.length → l[j]? = m[j]?
end Go.Proofs.YtidekfbgjghcjaaGreat

namespace Go.Proofs.YtidekfbgjghcjaaGreat
set_option linter.unusedSimpArgs false
set_option linter.unusedVariables false
open Go

section
variable {P : Program} {ops : Array Oper} {Q : Exit → Act → World → Prop} {a : Act} {w : World} {n r : Nat}

end

section
variable {P : Program} {ops : Array Oper} {rest : List Oper} {o : Oper} {a : Act} {w : World} {Q : Act → Prop}
theorem wpStill_load_at (ty : TypeId) (x : Operand) (b off : Nat) (cs : List Value) (d : TypeDesc) (dst : Option Tmp) (hb : w.rangeAt b off cs)
    (hu : P.underlying ty = some d) (hd : d.isRow = true) (hi : (P.info? ty).map (·.size) = some cs.length)
    (hg : Region.wanted o (yielded ops a.tmps) = true) (ho : o.op = .load ty x) (hds : o.dst = dst) (hx : a.eval x = .pointer (some ⟨b, off, none⟩))
    (h : wpStill P ops w Q rest (a.put dst (.agg cs.toArray))) : wpStill P ops w Q (o :: rest) a := by
  subst hds
  refine wpStill_step (fun K hK => ?_)
  rw [if_pos hg]
  unfold Go.Oper.still
  have e : (execOp a.eval o).run P w = .ok (.value (.agg cs.toArray)) w := by
    unfold execOp
    simp only [ho, hx, Instr.loadAt, Instr.sureAddr, Sem.run_bind, Sem.run_pure, Result.andThen_ok, run_loadVar_mid w b off ty cs d hb hu hd hi]
  rw [e, Go.Oper.stillUpon_value]
  exact hK _ h
theorem wpStill_neq_agg (t t' : TypeId) (x y : Operand) (xs ys : Array Value) (r : Bool) (d : Option Tmp)
    (hm : P.eqGuardType P.depth t = false) (hq : (Op.equalIn 10000 t (.agg xs) (.agg ys)).run P w = .ok r w)
    (hg : Region.wanted o (yielded ops a.tmps) = true) (ho : o.op = .binOp .neq t x y t') (hd : o.dst = d) (hx : a.eval x = .agg xs) (hy : a.eval y = .agg ys)
    (h : wpStill P ops w Q rest (a.put d (.bool (!r)))) : wpStill P ops w Q (o :: rest) a := by
  subst hd
  refine wpStill_step (fun K hK => ?_)
  rw [if_pos hg]
  unfold Go.Oper.still
  have e : (execOp a.eval o).run P w = .ok (.value (.bool (!r))) w := by
    unfold execOp
    simp only [ho, hx, hy, Sem.run_bind, run_eqGuard_agg w _ t x y xs ys hm, Result.andThen_ok, run_neq_struct, hq, Sem.run_pure]
  rw [e, Go.Oper.stillUpon_value]
  exact hK _ h
end
end Go.Proofs.YtidekfbgjghcjaaGreat

namespace Go.Proofs.YtidekfbgjghcjaaGreat
set_option linter.unusedSimpArgs false
set_option linter.unusedVariables false
open Go Go.RowKit Go.Shelf
attribute [local go_sem] Go.Oper.semAt_some

theorem both_walk (p q : Option Addr) (a b c d : Nat) (w : World) :
    Calls Tryz.prog 169 #[.slice p a c, .slice q b d] w fun e w' => ∃ bm bq, e = .returned (.func (.func 215) #[] #[.pointer (some ⟨bq, 0, none⟩), .pointer (some ⟨bm, 0, none⟩)]) ∧ Blk w' bm [.slice p a c] 52 ∧ Blk w' bq [.slice q b d] 52 ∧ Below w.heap.size w w' := by
  have hmf : ∀ (fn : Fn) (first cap : Array Value) (w : World), (Instr.makeFunc fn first cap).run Tryz.prog w = .ok (.func fn first cap) w := fun _ _ _ _ => rfl
  go_enter Tryz.func169, Tryz.ntmps169
  go_wp2_with (first
    | ((with_reducible refine wpList_box_one 52 (.tmp 0) (.slice p a c) rfl (some 2) ?hgd ?ho ?hd ?hx ?_); (case hgd | ho | hd | hx => rfl); (intro bm w1 l1 B1 e1 z1))
    | ((with_reducible refine wpList_box_one 52 (.tmp 1) (.slice q b d) rfl (some 3) ?hgd ?ho ?hd ?hx ?_); (case hgd | ho | hd | hx => rfl); (intro bq w2 l2 B2 e2 z2))
    | fail)
  go_ret
  exact ⟨bm, bq, rfl, B1.below e2 (by omega), B2, bt (e1.mono l1) (e2.mono l2)⟩

theorem lastB_succF {m : List Sld} {k : Nat} {t : Sld} (h : m[k]? = some t) : lastB (m.take (k + 1)) = t.tag := by
  obtain ⟨hk, rfl⟩ := List.getElem?_eq_some_iff.1 h
  unfold lastB
  rw [List.take_succ_eq_append_getElem hk, List.getLast?_append]
  simp
def Places (l m : List Sld) := { k : Nat // RowPart l m k }
def encP {l m : List Sld} (x : Places l m) : Array Value := #[.int .i64 (x.1 : Int), .string (lastB (m.take x.1))]
def SameTo (l m : List Sld) (k : Nat) : Prop := ∀ j, j < k → l[j]? = m[j]?

set_option maxRecDepth 100000 in
set_option maxHeartbeats 4000000 in
theorem both1_in (n : Nat) (hn : 1 ≤ n) (bm bt n₀ : Nat) (u v : Value) (l m : List Sld) (r : Nat) (J Jx : List (Places l m) → World → Prop) (W : World)
    (hbm : Blk W bm [u] 52) (hbt : Blk W bt [v] 52) (hu : SldRow W u l) (hv : SldRow W v m) (hl : l.length ≤ 1048576) (hm : m.length ≤ 1048576)
    (hJ : ∀ W', Below W.heap.size W W' → J [] W')
    (hY : ∀ pre x W1, J pre W1 → pre.length < 1 → YieldAt Fence.wide (n - 1) Tryz.prog r (encP x) W1 fun e W' =>
      (e = .returned (.bool true) ∧ J (pre ++ [x]) W' ∧ Below n₀ W1 W') ∨ (e = .returned (.bool false) ∧ Jx (pre ++ [x]) W')) :
    CallsIn Fence.wide n Tryz.prog 215 #[.func (.yield r) #[] #[], .pointer (some ⟨bt, 0, none⟩), .pointer (some ⟨bm, 0, none⟩)] W fun e W' => (∃ v, e = .returned v) ∧
      ((∃ xs, ((xs = [] ∧ NoPart l m) ∨ ∃ x, xs = [x]) ∧ J xs W') ∨ (∃ pre, (∃ x, pre = [x]) ∧ Jx pre W')) := by
  obtain ⟨p, c, rfl⟩ := hu.shape
  obtain ⟨q, d, rfl⟩ := hv.shape
  obtain ⟨a, ha⟩ : ∃ a, a = l.length := ⟨_, rfl⟩
  obtain ⟨b, hb⟩ : ∃ b, b = m.length := ⟨_, rfl⟩
  rw [← ha] at hu hbm
  rw [← hb] at hv hbt
  have hmx : ¬ (m.length : Int) < 0 := by omega
  have hb2 : b ≤ 1048576 := by omega
  have HA := Lib.hid ha; clear ha
  have HB := Lib.hid hb; clear hb
  have HU := Lib.hid hu; clear hu
  have HV := Lib.hid hv; clear hv
  have ct := hbt.cell (i := 0) rfl
  have HBM := Lib.hid hbm; clear hbm
  have HBT := Lib.hid hbt; clear hbt
  have HJ := Lib.hid hJ; clear hJ
  have HY := Lib.hid hY; clear hY
  clear hmx
  refine callsIn_of_wp Tryz.func215 rfl trivial ?_ rfl
  simp only [Tryz.ntmps215, List.size_toArray, List.length_cons, List.length_nil, Nat.reduceAdd, Nat.reduceSub, Array.replicate_succ, Array.replicate_zero, List.push_toArray, List.append_toArray, List.nil_append, List.cons_append]
  gi_wp2_with (refine ⟨trivial, ?_⟩; gi_at_call 132; refine (callsIn_wide.2 (begin_walk _)).mono ?_; rintro e w1 ⟨z, rfl, tz, hb1⟩; have ct := (HBT.out.below hb1 HBT.out.lt).cell (i := 0) rfl)
  gi_loopw [4, 10] (fun was i wr => ∃ k : Nat, k ≤ b ∧ i = .int .i64 k ∧ was = .string (lastB (m.take k)) ∧ Below W.heap.size W wr ∧ SameTo l m k) (fun _ i _ => b - (intOf i).toNat)
  case atStart => exact ⟨0, by omega, rfl, by rw [tz.eqB]; rfl, hb1, fun j hj => by omega⟩
  case round =>
    obtain ⟨k, hk, rfl, rfl, hbel, hsame⟩ := hrel
    have HSA := Lib.hid hsame; clear hsame
    by_cases hlt : k < b
    · have hlt' : (k : Int) < b := by omega
      have h00 : (0 : Int) ≤ (k : Int) := by omega
      obtain ⟨t, hx⟩ : ∃ x, m[k]? = some x := ⟨_, List.getElem?_eq_getElem (by rw [← HB.out]; omega)⟩
      rcases HV.out with ⟨h0, _⟩ | ⟨g, o, c', hq, hcc, hg, hat⟩
      · have := HB.out; rw [h0] at this; simp at this; omega
      rw [← HB.out] at hq
      injection hq with hq1 _ hq3
      subst hq1 hq3
      have hrange : wr.rangeAt g (o + k * 9) t.cells := fun j u hu => by rw [hbel.cell (by show g < W.heap.size; exact hg)]; exact hat k t hx j u hu
      obtain ⟨c0, c1, c2, c3, c4, c5, c6, c7, c8⟩ := sld_cells hrange
      have HX := Lib.hid hx
      have HBE := Lib.hid hbel
      have cbm := (HBM.out.below hbel HBM.out.lt).cell (i := 0) rfl
      clear hx hat hrange hbel
      gi_wp2_with fail
      have B6 : Blk (wr.alloc (Obj.cells #[.int .i64 t.r.kind, .int .i64 t.r.epoch, .int .i64 t.r.time, .int .i64 t.r.count, .int .i64 t.r.target, .int .i64 t.r.till, .string t.r.root, .string t.r.name, .string t.tag] 27)) wr.heap.size t.cells 27 := Blk.new wr t.cells 27
      have hb6 : Below wr.heap.size wr (wr.alloc (Obj.cells #[.int .i64 t.r.kind, .int .i64 t.r.epoch, .int .i64 t.r.time, .int .i64 t.r.count, .int .i64 t.r.target, .int .i64 t.r.till, .string t.r.root, .string t.r.name, .string t.tag] 27)) := (Below.refl _ _).alloc (Nat.le_refl _) _
      obtain ⟨w6, hw6⟩ : ∃ w6, wr.alloc (Obj.cells #[.int .i64 t.r.kind, .int .i64 t.r.epoch, .int .i64 t.r.time, .int .i64 t.r.count, .int .i64 t.r.target, .int .i64 t.r.till, .string t.r.root, .string t.r.name, .string t.tag] 27) = w6 := ⟨_, rfl⟩
      rw [hw6] at B6 hb6 ⊢
      obtain ⟨b5, hb5⟩ : ∃ b5, wr.heap.size = b5 := ⟨_, rfl⟩
      have cbm6 : w6.drew.cell? ⟨bm, 0, none⟩ = some (.slice p a c) := (hb6.cell (p := ⟨bm, 0, none⟩) (by have := HBM.out.lt; have := HBE.out.size; show bm < wr.heap.size; omega)).trans cbm
      have HB6 := Lib.hid (hb6.mono (Nat.le_refl _))
      have HBW := Lib.hid (HBE.out.trans (hb6.mono HBE.out.size))
      rw [hb5] at B6 ⊢
      have hrT : w6.drew.rangeAt b5 0 t.cells := B6.range
      have HRT := Lib.hid hrT
      have htag : w6.cell? ⟨b5, 8, none⟩ = some (.string t.tag) := B6.cell (i := 8) rfl
      have HTG := Lib.hid htag
      clear hw6 B6 hb6 hb5 hrT cbm htag c0 c1 c2 c3 c4 c5 c6 c7 c8
      by_cases hka : k < a
      rotate_left
      · have hka' : (a : Int) ≤ k := by omega
        have hpart : RowPart l m k := ⟨by rw [← HB.out]; exact hlt, by rw [HX.out, List.getElem?_eq_none (by rw [← HA.out]; omega)]; simp, HSA.out⟩
        obtain ⟨fn, tmps, assign, body, hy, hR⟩ := HY.out [] ⟨k, hpart⟩ w6.drew (HJ.out _ HBW.out.drew) (by simp)
        dsimp only [encP] at hy
        refine wpIn_wide.2 ?_
        refine wp_region_still_drew (by kernel_rfl) (by kernel_rfl) ?_
        repeat (first | still_step)
        refine wpStill_nil ?_
        gi_wp2_with fail
        refine hR.mono ?_
        rintro e W3 (⟨rfl, hJ3, hk3⟩ | ⟨rfl, hJx3⟩)
        · gi_wp2_with fail
          refine bodyPost_ret (results_none rfl _ _ _) rfl ?_
          exact ⟨⟨_, rfl⟩, .inl ⟨_, .inr ⟨_, rfl⟩, hJ3⟩⟩
        · gi_wp2_with fail
          refine bodyPost_ret (results_none rfl _ _ _) rfl ?_
          exact ⟨⟨_, rfl⟩, .inr ⟨_, ⟨_, rfl⟩, hJx3⟩⟩
      · have hka' : decide (a ≤ k) = false := by simp; omega
        have hka2 : (k : Int) < a := by omega
        obtain ⟨x, hxl⟩ : ∃ x, l[k]? = some x := ⟨_, List.getElem?_eq_getElem (by rw [← HA.out]; exact hka)⟩
        rcases HU.out with ⟨h0, _⟩ | ⟨g2, o2, c2', hq, hcc2, hg2, hat2⟩
        · have := HA.out; rw [h0] at this; simp at this; omega
        rw [← HA.out] at hq
        injection hq with hq1 _ hq3
        subst hq1 hq3
        have hr2 : w6.drew.rangeAt g2 (o2 + k * 9) x.cells := fun j u hu => by show w6.cell? _ = _; rw [HBW.out.cell (by show g2 < W.heap.size; exact hg2)]; exact hat2 k x hxl j u hu
        have HR2 := Lib.hid hr2
        have HXL := Lib.hid hxl
        clear hr2 hat2 hxl
        by_cases hxy : x = t
        · subst hxy
          refine wpIn_wide.2 ?_
          refine wp_region_still_drew (by kernel_rfl) (by kernel_rfl) ?_
          repeat (first | ((with_reducible refine wpStill_load_at 27 (.tmp 22) _ _ x.cells _ (some 23) HR2.out Tryz.underlying27 rfl rsizeSld ?hg ?ho ?hds ?hx ?_); (case hg | ho | hds | hx => rfl)) | ((with_reducible refine wpStill_load_at 27 (.tmp 6) _ _ x.cells _ (some 24) HRT.out Tryz.underlying27 rfl rsizeSld ?hg ?ho ?hds ?hx ?_); (case hg | ho | hds | hx => rfl)) | ((with_reducible refine wpStill_neq_agg 27 27 (.tmp 23) (.tmp 24) x.cells.toArray x.cells.toArray true (some 25) guardSld (eqSldT x _) ?hg ?ho ?hd ?hx ?hy ?_); (case hg | ho | hd | hx | hy => rfl)) | still_step)
          refine wpStill_nil ?_
          have htag := HTG.out
          gi_wp2_with fail
          clear htag
          go_roundw
          case rel =>
            refine ⟨k + 1, by omega, by go_num, ?_, HBW.out.drew, fun j hj => ?_⟩
            · rw [lastB_succF HX.out]
            · by_cases hjk : j = k
              · subst hjk; rw [HX.out, HXL.out]
              · exact HSA.out j (by omega)
          case measure => simp [intOf]; omega
        · have hpart : RowPart l m k := ⟨by rw [← HB.out]; exact hlt, by rw [HX.out, HXL.out]; intro e; exact hxy (Option.some.inj e), HSA.out⟩
          obtain ⟨fn, tmps, assign, body, hy, hR⟩ := HY.out [] ⟨k, hpart⟩ w6.drew (HJ.out _ HBW.out.drew) (by simp)
          dsimp only [encP] at hy
          have HNE := Lib.hid hxy
          clear hxy
          refine wpIn_wide.2 ?_
          refine wp_region_still_drew (by kernel_rfl) (by kernel_rfl) ?_
          repeat (first | ((with_reducible refine wpStill_load_at 27 (.tmp 22) _ _ x.cells _ (some 23) HR2.out Tryz.underlying27 rfl rsizeSld ?hg ?ho ?hds ?hx ?_); (case hg | ho | hds | hx => rfl)) | ((with_reducible refine wpStill_load_at 27 (.tmp 6) _ _ t.cells _ (some 24) HRT.out Tryz.underlying27 rfl rsizeSld ?hg ?ho ?hds ?hx ?_); (case hg | ho | hds | hx => rfl)) | ((with_reducible refine wpStill_neq_agg 27 27 (.tmp 23) (.tmp 24) x.cells.toArray t.cells.toArray false (some 25) guardSld (eqSldF HNE.out _) ?hg ?ho ?hd ?hx ?hy ?_); (case hg | ho | hd | hx | hy => rfl)) | still_step)
          refine wpStill_nil ?_
          gi_wp2_with fail
          refine hR.mono ?_
          rintro e W3 (⟨rfl, hJ3, hk3⟩ | ⟨rfl, hJx3⟩)
          · gi_wp2_with fail
            refine bodyPost_ret (results_none rfl _ _ _) rfl ?_
            exact ⟨⟨_, rfl⟩, .inl ⟨_, .inr ⟨_, rfl⟩, hJ3⟩⟩
          · gi_wp2_with fail
            refine bodyPost_ret (results_none rfl _ _ _) rfl ?_
            exact ⟨⟨_, rfl⟩, .inr ⟨_, ⟨_, rfl⟩, hJx3⟩⟩
    · obtain rfl : k = b := by omega
      gi_wp2_with fail
      go_end0
      exact ⟨⟨_, rfl⟩, .inl ⟨[], .inl ⟨rfl, fun j hj => HSA.out j (by rw [HB.out]; exact hj)⟩, HJ.out _ hbel⟩⟩
end Go.Proofs.YtidekfbgjghcjaaGreat

