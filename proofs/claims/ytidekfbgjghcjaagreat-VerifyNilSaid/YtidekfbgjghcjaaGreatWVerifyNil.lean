/- Walk of VerifyNil: for every act, and whether there is a verifier that no call made, the law returns true. No condition. -/
import Derived.Test.YtidekfbgjghcjaaGreatG20
import Derived.Test.YtidekfbgjghcjaaGreatVer2
import Derived.Test.YtidekfbgjghcjaaGreatWireS3
import Derived.Test.YtidekfbgjghcjaaGreatG14
namespace Go.Proofs.YtidekfbgjghcjaaGreat
set_option linter.unusedSimpArgs false
set_option linter.unusedVariables false
open Go Go.RowKit
set_option linter.unusedVariables false

section
variable {P : Program} {ops : Array Oper} {rest : List Oper} {o : Oper} {a : Act} {w : World} {Q : Exit → Act → World → Prop}
/-- A struct built of its parts, behind a guard that is met. -/
theorem wpList_build_met (t : TypeId) (parts : Array (Nat × Operand)) (cells : List Value) (hg : Region.wanted o (yielded ops a.tmps) = true) (ho : o.op = .build t parts)
    (hf : P.built t (parts.map fun (i, x) => (i, a.eval x)).toList = some cells.toArray)
    (h : wpList P ops Q rest (a.put o.dst (.agg cells.toArray)) w) : wpList P ops Q (o :: rest) a w :=
  wpList_met hg fun K hK => wp_build t parts ho (by rw [hf]; rfl) (by rw [hf]; exact hK _ _ h)
/-- An operation behind a guard that is met, that only reads. -/
theorem wpList_run_met (v : Value) (d : Option Tmp) (hg : Region.wanted o (yielded ops a.tmps) = true) (hds : o.dst = d) (hr : (execOp a.eval o).run P w = .ok (.value v) w)
    (h : wpList P ops Q rest (a.put d v) w) : wpList P ops Q (o :: rest) a w := by
  subst hds
  unfold wpList
  rw [if_pos hg]
  refine .inl ?_
  unfold Go.Oper.wp
  rw [hr]
  exact h
end
theorem builtZero : Tryz.prog.built 39 [] = some (mzero).toArray := by kernel_rfl
def ActD.zeroCells : List Value := ActD.cells ⟨0, 0, 0, ⟨#[]⟩, none, 0, 0, MsgD.zero, .slice none 0 0, .slice none 0 0, ⟨0, 0, 0, 0, ⟨#[]⟩, ⟨#[]⟩, none, 0, 0⟩⟩
theorem infoAct : (Tryz.prog.info? 82).map (fun i => (i.zero, i.size, i.bytes)) = some (some (.agg ActD.zeroCells.toArray), 53, 616) := by kernel_rfl
theorem sizeAct {a : ActD} : (Tryz.prog.info? 82).map (·.size) = some a.cells.length := by kernel_rfl
theorem NoVer.drop {w w' : World} {v : Value} (h : NoVer w v) (hb : Below w.heap.size w w') : NoVer w' v := h.below hb
set_option maxRecDepth 100000 in
set_option maxHeartbeats 2000000 in
theorem verifyNil_walk (a : ActD) (there : Bool) (w : World) (hf : ActFits w a) :
    Calls Tryz.prog 6 #[a.v, .bool there] w fun e w' => e = .returned (.bool true) ∧ Below w.heap.size w w' := by
  have HF := Lib.hid hf
  clear hf
  go_enter Tryz.func6, Tryz.ntmps6
  go_wp2_with (first
    | ((with_reducible refine wpList_box_new 82 (.tmp 0) (a.cells) (some 2) ?hgd ?ho ?hd ?hx ?_); (case hgd => rfl); (case ho => rfl); (case hd => rfl); (case hx => rfl); (intro b0 w0 l0 B0 e0 z0))
    | ((with_reducible refine wpList_load_met 82 (.tmp 2) b0 0 (a.cells) _ (some 10) (B0.range) Tryz.underlying82 rfl sizeAct ?hg ?ho ?hds ?hx ?_); (case ho => rfl); (case hg => rfl); (case hds => rfl); (case hx => rfl))
    | ((with_reducible refine wpList_slice_new 84 82 1 ?parts a.cells (.agg ActD.zeroCells.toArray) 53 616 (some 11) Tryz.underlying84 infoAct (by omega) (by omega) ?hgd ?ho ?hd ?hf ?_); (case hgd => rfl); (case ho => rfl); (case hd => rfl); (case hf => kernel_rfl); (intro g1 w1 l1 B1 e1 z1))
    | fail)
  have HB1 := Lib.hid (show Below w.heap.size w w1 from (e0.mono l0).trans (e1.mono (by have := e0.size; omega)))
  have HX1 := Lib.hid (B0.below e1 (Nat.lt_of_lt_of_le B0.lt l1))
  have HG1 := Lib.hid B1
  clear B0 B1 e0 e1 l0 l1 z0 z1
  refine (few28_one g1 1 a _ HG1.out.range HG1.out.lt ⟨HF.out.msg.next HB1.out, HF.out.asks, HF.out.keep⟩).mono ?_
  rintro e w2 ⟨⟨q, rfl⟩, hb2⟩
  have HX2 := Lib.hid (HX1.out.below hb2 HX1.out.lt)
  have HB2 := Lib.hid (HB1.out.trans (hb2.mono HB1.out.size))
  clear hb2
  cases q with
  | false =>
    go_wp2_with fail
    refine (alive28 _).mono ?_
    rintro e wz ⟨rfl, hbz⟩
    go_wp2_with fail
    go_ret
    exact ⟨rfl, HB2.out.trans (hbz.mono HB2.out.size)⟩
  | true =>
  go_upto_if 15 with fail
  go_cut [5] from 16 to 17 (fun v wx => NoVer wx v ∧ Blk wx b0 a.cells 82 ∧ Below w.heap.size w wx)
  case first =>
    cases there with
    | false =>
      go_wp2_with fail
      go_meet
      exact ⟨.inl rfl, HX2.out, HB2.out⟩
    | true =>
      go_wp2_with fail
      go_meet
      refine ⟨.inr ⟨w2.heap.size, rfl, by simp, (Blk.new w2 _ _).cell (i := 2) rfl⟩, HX2.out.alloc _, HB2.out.alloc HB2.out.size _⟩
  case rest =>
  obtain ⟨hv, hx, hb⟩ := hcut
  obtain ⟨w3, hw3⟩ : ∃ W, W = wc := ⟨_, rfl⟩
  rw [← hw3] at hv hx hb ⊢
  clear hw3
  have HV3 := Lib.hid hv
  have HX3 := Lib.hid hx
  have HB3 := Lib.hid hb
  clear hv hx hb
  go_wp2_with fail
  refine (vOut_no _ _ HV3.out).mono ?_
  rintro e w4 ⟨rfl, hb4⟩
  have HV4 := Lib.hid (HV3.out.below hb4)
  have HX4 := Lib.hid (HX3.out.below hb4 HX3.out.lt)
  have HB4 := Lib.hid (HB3.out.trans (hb4.mono HB3.out.size))
  clear hb4
  go_upto_region 7 with (first
    | ((with_reducible refine wpList_alloc_new 39 mzero zeroMsgB (some 6) ?hgd ?ho ?hd ?_); (case hgd => rfl); (case ho => rfl); (case hd => rfl); (intro b5 w5 l5 B5 e5 z5))
    | ((with_reducible refine wpList_store_new 39 (.tmp 6) (.tmp 21) b5 mzero (MsgD.zero.cells (.slice none 0 0) (.slice none 0 0)) 39 B5 rfl sizeMsg (mcells_one nil_shape nil_shape) ?hgd ?ho ?hx ?hy ?_); (case hgd => rfl); (case ho => rfl); (case hx => rfl); (case hy => rfl); (intro w6 B6 o6))
    | fail)
  have hb6 : Below w4.heap.size w4 w6 := o6.below (e5.mono l5) l5
  have HZ6 := Lib.hid B6
  have HV6 := Lib.hid (HV4.out.below hb6)
  have HX6 := Lib.hid (HX4.out.below hb6 HX4.out.lt)
  have HB6 := Lib.hid (HB4.out.trans (hb6.mono HB4.out.size))
  clear hb6
  clear B5 B6 o6 e5 l5 z5
  have c1 : w6.cell? ⟨b0, 1, none⟩ = some (.int .i64 a.n) := HX6.out.cell (i := 1) rfl
  have c3 : w6.cell? ⟨b0, 3, none⟩ = some (.string a.name) := HX6.out.cell (i := 3) rfl
  have c4 : w6.cell? ⟨b0, 4, none⟩ = some (.slice a.pa a.na a.ca) := HX6.out.cell (i := 4) rfl
  have R5 := Lib.hid (actMsg HX6.out.range)
  go_wp2_with fail
  refine (vState_no _ _ HV6.out).mono ?_
  rintro e wq ⟨rfl, hwq⟩
  subst hwq
  go_wp2_with fail
  refine (vTick_no _ _ _ HV6.out).mono ?_
  rintro e wq ⟨rfl, hwq⟩
  subst hwq
  go_wp2_with fail
  refine (vHold_no _ _ _ _ HV6.out).mono ?_
  rintro e wq ⟨rfl, hwq⟩
  subst hwq
  go_wp2_with fail
  refine (vRelease_no _ _ _ HV6.out).mono ?_
  rintro e wq ⟨rfl, hwq⟩
  subst hwq
  go_wp2_with fail
  refine (vStart_no _ _ _ HV6.out).mono ?_
  rintro e wq ⟨rfl, hwq⟩
  subst hwq
  rename_i K0 hK0
  refine hK0 _ _ ?_
  refine wpList_run_met (.bool true) (some 54) rfl rfl (by kernel_rfl) ?_
  refine wpList_run_met (.bool true) (some 55) rfl rfl (by kernel_rfl) ?_
  refine wpList_run_met (.bool true) (some 56) rfl rfl (by kernel_rfl) ?_
  refine wpList_run_met u5 (some 57) rfl rfl (by kernel_rfl) ?_
  refine wpList_run_met (.pointer (some ⟨b0, 5, none⟩)) (some 58) rfl rfl (by kernel_rfl) ?_
  refine wpList_load_met 39 (.tmp 58) b0 5 (a.m.cells a.u a.l) _ (some 59) R5.out Tryz.underlying39 rfl sizeMsg rfl rfl rfl rfl ?_
  go_wp2_with fail
  clear c1 c3 c4
  refine (vIn_no _ a.m a.u a.l _ HV6.out).mono ?_
  rintro e w7 ⟨rfl, hb7⟩
  have HV7 := Lib.hid (HV6.out.below hb7)
  have HX7 := Lib.hid (HX6.out.below hb7 HX6.out.lt)
  have HZ7 := Lib.hid (HZ6.out.below hb7 HZ6.out.lt)
  have HB7 := Lib.hid (HB6.out.trans (hb7.mono HB6.out.size))
  clear hb7
  go_wp2_with (first
    | ((with_reducible refine wpList_load_met 39 (.tmp 6) b5 0 (MsgD.zero.cells (.slice none 0 0) (.slice none 0 0)) _ (some 64) (HZ7.out.range) Tryz.underlying39 rfl sizeMsg ?hg ?ho ?hds ?hx ?_); (case ho => rfl); (case hg => rfl); (case hds => rfl); (case hx => rfl))
    | ((with_reducible refine wpList_build_met 39 ?parts mzero ?hg ?ho ?hf ?_); (case ho => rfl); (case hg => rfl); (case hf => exact builtZero))
    | fail)
  refine (same27_walk MsgD.zero MsgD.zero (.slice none 0 0) (.slice none 0 0) (.slice none 0 0) (.slice none 0 0) _ (PathIn.nil _ _) (PathIn.nil _ _) (PathIn.nil _ _) (PathIn.nil _ _) ⟨by decide⟩ ⟨by decide⟩ ⟨by decide⟩ ⟨by decide⟩).mono ?_
  rintro e w8 ⟨he, hb8⟩
  rw [show decide (MsgD.zero = MsgD.zero) = true from decide_eq_true rfl] at he
  subst he
  have HV8 := Lib.hid (HV7.out.below hb8)
  have HB8 := Lib.hid (HB7.out.trans (hb8.mono HB7.out.size))
  clear hb8
  go_wp2_with fail
  refine (vVerdicts_no _ _ HV8.out).mono ?_
  rintro e wq ⟨rfl, hwq⟩
  subst hwq
  go_wp2_with fail
  refine (vCount_no _ _ HV8.out).mono ?_
  rintro e wq ⟨rfl, hwq⟩
  subst hwq
  go_wp2_with fail
  refine (vHead_no _ _ HV8.out).mono ?_
  rintro e w9 ⟨rfl, hb9⟩
  have HV9 := Lib.hid (HV8.out.below hb9)
  have HB9 := Lib.hid (HB8.out.trans (hb9.mono HB8.out.size))
  clear hb9
  go_wp2_with (first
    | ((with_reducible refine wpList_build_met 39 ?parts mzero ?hg ?ho ?hf ?_); (case ho => rfl); (case hg => rfl); (case hf => exact builtZero))
    | fail)
  refine (same27_walk MsgD.zero MsgD.zero (.slice none 0 0) (.slice none 0 0) (.slice none 0 0) (.slice none 0 0) _ (PathIn.nil _ _) (PathIn.nil _ _) (PathIn.nil _ _) (PathIn.nil _ _) ⟨by decide⟩ ⟨by decide⟩ ⟨by decide⟩ ⟨by decide⟩).mono ?_
  rintro e wA ⟨he, hbA⟩
  rw [show decide (MsgD.zero = MsgD.zero) = true from decide_eq_true rfl] at he
  subst he
  have HBA := Lib.hid (HB9.out.trans (hbA.mono HB9.out.size))
  clear hbA
  go_wp2_with fail
  refine (alive28 _).mono ?_
  rintro e wz ⟨rfl, hbz⟩
  go_wp2_with fail
  go_ret
  exact ⟨rfl, HBA.out.trans (hbz.mono HBA.out.size)⟩
end Go.Proofs.YtidekfbgjghcjaaGreat
