/- Code that is walked in the body of a range over a function, by the laws of a plain walk: operation by operation, region by region. No program in sight. -/
import Derived.RangeFuncFrom
import Derived.RangeFuncCalls
import Derived.RangeFuncLeaves
import Derived.TacticsIn
import Derived.OrdersIn
import Derived.Still
import Derived.StillTail
import Derived.StillTailTactics
import Derived.WalkKit
import Derived.ProofKit
import Derived.Deep.MidRow
import Derived.Laws.StructEq
namespace Go.Proofs.YtppdboadjefieaaGreat
set_option linter.unusedSimpArgs false
set_option linter.unusedVariables false
open Go
set_option linter.unusedVariables false

section
variable {P : Program} {ops : Array Oper} {Q : Exit → Act → World → Prop} {a : Act} {w : World} {n r : Nat}

/-- An operation that defers nothing. -/
def Oper.calm (o : Oper) : Bool := match o.op with | .defer _ => false | _ => true
theorem Oper.calm_sem {o : Oper} (h : Oper.calm o = true) (ro : Option Nat) (ρ : Operand → Value) : Go.Oper.semAt ro ρ o = execOp ρ o := by
  refine Go.Oper.semAt_eq ro ρ o fun c hc => ?_
  unfold Oper.calm at h
  rw [hc] at h
  cases h
theorem wide_in (f : FuncId) : (Fence.wide.inRound r).fn f := trivial
theorem calls_in {f : FuncId} {args : Array Value} {R : Ending → World → Prop} {m : Nat} (h : Calls P f args w R) : CallsIn (Fence.wide.inRound r) m P f args w R := CallsIn.inRound r (callsIn_wide.2 h)
theorem rows_in {row : String} {args : Array Value} {R : Value → World → Prop} {m : Nat} (h : Rows P row args w R) : RowsIn (Fence.wide.inRound r) m P row args w R :=
  fun c cs _ => let ⟨v, w', q, s⟩ := h c cs; ⟨v, w', q, StepsIn.mono (fun m _ => fenced_wide P m) (StepsIn.of_steps s)⟩
theorem oper_in {o : Oper} {K : Act → World → Prop} (hc : Oper.calm o = true) (h : o.wp P a w K Q) : o.wpIn (Fence.wide.inRound r) n P a w K Q := by
  refine ⟨fun f _ => wide_in f, ?_⟩
  rw [Oper.calm_sem hc]
  unfold Go.Oper.wp at h
  generalize (execOp a.eval o).run P w = x at *
  cases x with
  | ok x w' =>
    cases x <;> simp only [Go.Oper.upon] at h <;> simp only [Go.Oper.uponIn] <;>
      first
        | exact h
        | exact ⟨fun h => by simp [Fence.wide] at h, calls_in h⟩
        | exact ⟨fun h => by simp [Fence.wide] at h, rows_in h⟩
  | halt x w' => cases x <;> simp only [Go.Oper.upon] at h <;> simp only [Go.Oper.uponIn] <;> exact h
/-- All of them. -/
def calmB (ops : Array Oper) : Bool := ops.all Oper.calm
theorem calmB_at {i : Nat} {o : Oper} (h : calmB ops = true) (ho : ops[i]? = some o) : Oper.calm o = true := by
  unfold calmB at h
  rw [Array.all_eq_true] at h
  obtain ⟨hi, rfl⟩ := Array.getElem?_eq_some_iff.1 ho
  exact h i hi
theorem wpOp_in {i : Nat} {K K' : Act → World → Prop} (hc : calmB ops = true) (hQ : ¬ LetsOut Q) (hK : ∀ a w, K a w → K' a w) (h : wpOp P ops Q i K a w) : wpOpIn (Fence.wide.inRound r) n P ops Q i K' a w := by
  unfold wpOp at h
  unfold wpOpIn
  cases ho : ops[i]? with
  | none => rw [ho] at h; exact hK _ _ h
  | some o =>
    rw [ho] at h
    simp only at h ⊢
    split at h
    · next hw =>
      rw [if_pos hw]
      rcases h with h | ⟨_, h⟩
      · exact Go.Oper.wpIn_mono hK (oper_in (calmB_at hc ho) h)
      · exact absurd h hQ
    · next hw =>
      rw [if_neg hw]
      exact ⟨fun f _ => wide_in f, hK _ _ h⟩
theorem wpOps_in (hc : calmB ops = true) (hQ : ¬ LetsOut Q) : ∀ (l : List Nat) (a : Act) (w : World), wpOps P ops Q l a w → wpOpsIn (Fence.wide.inRound r) n P ops Q l a w := by
  intro l
  induction l with
  | nil => intro a w h; exact h
  | cons i l ih =>
    intro a w h
    rw [wpOps_cons] at h
    rw [wpOpsIn_cons]
    exact wpOp_in hc hQ (fun a w => ih a w) h
theorem oper_wide {o : Oper} {K : Act → World → Prop} (hc : Oper.calm o = true) (h : o.wp P a w K Q) : o.wpIn Fence.wide n P a w K Q := by
  refine ⟨fun f _ => trivial, ?_⟩
  rw [Oper.calm_sem hc]
  unfold Go.Oper.wp at h
  generalize (execOp a.eval o).run P w = x at *
  cases x with
  | ok x w' =>
    cases x <;> simp only [Go.Oper.upon] at h <;> simp only [Go.Oper.uponIn] <;>
      first
        | exact h
        | exact ⟨fun h => by simp [Fence.wide] at h, callsIn_wide.2 h⟩
        | exact ⟨fun h => by simp [Fence.wide] at h, fun c cs _ => let ⟨v, w', q, s⟩ := h c cs; ⟨v, w', q, StepsIn.mono (fun m _ => fenced_wide P m) (StepsIn.of_steps s)⟩⟩
  | halt x w' => cases x <;> simp only [Go.Oper.upon] at h <;> simp only [Go.Oper.uponIn] <;> exact h
/-- Operations that are walked by the plain laws, at the wide fence. -/
theorem list_wide_in : ∀ {l : List Oper} {a : Act} {w : World}, l.all Oper.calm = true → ¬ LetsOut Q → wpList P ops Q l a w → wpListIn Fence.wide n P ops Q l a w := by
  intro l
  induction l with
  | nil => intro a w _ _ h; exact h
  | cons o l ih =>
    intro a w hc hQ h
    rw [List.all_cons, Bool.and_eq_true] at hc
    unfold wpList at h
    unfold wpListIn
    split at h
    · next hw =>
      rw [if_pos hw]
      rcases h with h | ⟨_, h⟩
      · exact Go.Oper.wpIn_mono (fun a w h => ih hc.2 hQ h) (oper_wide hc.1 h)
      · exact absurd h hQ
    · next hw =>
      rw [if_neg hw]
      exact ⟨fun f _ => trivial, ih hc.2 hQ h⟩
/-- .. and in a round. -/
theorem list_round_in : ∀ {l : List Oper} {a : Act} {w : World}, l.all Oper.calm = true → ¬ LetsOut Q → wpList P ops Q l a w → wpListIn (Fence.wide.inRound r) n P ops Q l a w := by
  intro l
  induction l with
  | nil => intro a w _ _ h; exact h
  | cons o l ih =>
    intro a w hc hQ h
    rw [List.all_cons, Bool.and_eq_true] at hc
    unfold wpList at h
    unfold wpListIn
    split at h
    · next hw =>
      rw [if_pos hw]
      rcases h with h | ⟨_, h⟩
      · exact Go.Oper.wpIn_mono (fun a w h => ih hc.2 hQ h) (oper_in hc.1 h)
      · exact absurd h hQ
    · next hw =>
      rw [if_neg hw]
      exact ⟨fun f _ => wide_in f, ih hc.2 hQ h⟩
/-- A region of one order. -/
theorem region_in {id : Nat} {l : List Oper} (hc : calmB l.toArray = true) (hQ : ¬ LetsOut Q) (h : wpList P l.toArray Q l a w) : (Code.region id l.toArray false).wpIn (Fence.wide.inRound r) n P Q a w := by
  refine wpIn_region ?_
  refine wpOps_in hc hQ _ _ _ ?_
  rw [List.range_eq_range', ← Array.length_toList, wpOps_eq_wpList l.toArray.toList 0 (by simp)]
  simpa using h
theorem wpAny_in (hc : calmB ops = true) (hQ : ¬ LetsOut Q) : ∀ (fuel : Nat) (listed : Array Bool) (a : Act) (w : World), wpAny P .any ops Q fuel listed a w → wpAnyIn (Fence.wide.inRound r) n P .any ops Q fuel listed a w := by
  intro fuel
  induction fuel with
  | zero => intro listed a w h; exact h
  | succ fuel ih =>
    intro listed a w h
    exact ⟨h.1, fun i hi => wpOp_in hc hQ (fun a w => ih _ a w) (h.2 i hi)⟩
/-- A region that draws its order, and only reads. -/
theorem region_still_in {id : Nat} {l : List Oper} (hc : calmB l.toArray = true) (hQ : ¬ LetsOut Q) (hm : P.follows .mixedOrders = true) (hB : Region.lexB .any l.toArray = true)
    (h : wpStill P l.toArray w.drew (fun a' => Q .normal a' w.drew) l a) : (Code.region id l.toArray true).wpIn (Fence.wide.inRound r) n P Q a w := by
  refine wpIn_region_any hm (wpAny_in hc hQ _ _ _ _ ?_)
  simp only [Region.lexB, Bool.and_eq_true] at hB
  refine wpAny_of_still (Q := fun a' => Q .normal a' w.drew) (fun _ h => h) _ _ _ ?_
  have := wpAnyS_lex (md := .any) hB.1 l 0 (Array.replicate l.toArray.size false) a (by simp) (by simpa using hB.2) h
  simpa using this
/-- A region that draws its order, way by way. -/
theorem region_any_in {id : Nat} {l : List Oper} (hc : calmB l.toArray = true) (hQ : ¬ LetsOut Q) (hm : P.follows .mixedOrders = true)
    (h : wpAny P .any l.toArray Q l.toArray.size (Array.replicate l.toArray.size false) a w.drew) : (Code.region id l.toArray true).wpIn (Fence.wide.inRound r) n P Q a w :=
  wpIn_region_any hm (wpAny_in hc hQ _ _ _ _ h)
end

section
variable {P : Program} {ops : Array Oper} {rest : List Oper} {o : Oper} {a : Act} {w : World} {Q : Act → Prop}
/-- A struct is loaded out of the midst of a block, in a drawn region; behind a guard that is met, too. -/
theorem wpStill_load_at (ty : TypeId) (x : Operand) (b off : Nat) (cs : List Value) (d : TypeDesc) (dst : Option Tmp) (hb : w.rangeAt b off cs)
    (hu : P.underlying ty = some d) (hd : d.isRow = true) (hi : (P.info? ty).map (·.size) = some cs.length)
    (hg : Region.wanted o (yielded ops a.tmps) = true) (ho : o.op = .load ty x) (hds : o.dst = dst) (hx : a.eval x = .pointer (some ⟨b, off, none⟩))
    (h : wpStill P ops w Q rest (a.put dst (.agg cs.toArray))) : wpStill P ops w Q (o :: rest) a := by
  subst hds
  refine wpStill_step (fun K hK => ?_)
  rw [if_pos hg]
  unfold Go.Oper.still
  have e : (execOp a.eval o).run P w = .ok (.value (.agg cs.toArray)) w := by
    unfold execOp
    simp only [ho, hx, Instr.loadAt, Instr.sureAddr, Sem.run_bind, Sem.run_pure, Result.andThen_ok, run_loadVar_mid w b off ty cs d hb hu hd hi]
  rw [e, Go.Oper.stillUpon_value]
  exact hK _ h
/-- Two structs are compared in a drawn region. -/
theorem wpStill_neq_agg (t t' : TypeId) (x y : Operand) (xs ys : Array Value) (r : Bool) (d : Option Tmp)
    (hm : P.eqGuardType P.depth t = false) (hq : (Op.equalIn 10000 t (.agg xs) (.agg ys)).run P w = .ok r w)
    (hg : Region.wanted o (yielded ops a.tmps) = true) (ho : o.op = .binOp .neq t x y t') (hd : o.dst = d) (hx : a.eval x = .agg xs) (hy : a.eval y = .agg ys)
    (h : wpStill P ops w Q rest (a.put d (.bool (!r)))) : wpStill P ops w Q (o :: rest) a := by
  subst hd
  refine wpStill_step (fun K hK => ?_)
  rw [if_pos hg]
  unfold Go.Oper.still
  have e : (execOp a.eval o).run P w = .ok (.value (.bool (!r))) w := by
    unfold execOp
    simp only [ho, hx, hy, Sem.run_bind, run_eqGuard_agg w _ t x y xs ys hm, Result.andThen_ok, run_neq_struct, hq, Sem.run_pure]
  rw [e, Go.Oper.stillUpon_value]
  exact hK _ h
theorem wpStill_eq_agg (t t' : TypeId) (x y : Operand) (xs ys : Array Value) (r : Bool) (d : Option Tmp)
    (hm : P.eqGuardType P.depth t = false) (hq : (Op.equalIn 10000 t (.agg xs) (.agg ys)).run P w = .ok r w)
    (hg : Region.wanted o (yielded ops a.tmps) = true) (ho : o.op = .binOp .eql t x y t') (hd : o.dst = d) (hx : a.eval x = .agg xs) (hy : a.eval y = .agg ys)
    (h : wpStill P ops w Q rest (a.put d (.bool r))) : wpStill P ops w Q (o :: rest) a := by
  subst hd
  refine wpStill_step (fun K hK => ?_)
  rw [if_pos hg]
  unfold Go.Oper.still
  have e : (execOp a.eval o).run P w = .ok (.value (.bool r)) w := by
    unfold execOp
    simp only [ho, hx, hy, Sem.run_bind, run_eqGuard_agg w _ t x y xs ys hm, Result.andThen_ok, run_eql_struct, hq, Sem.run_pure]
  rw [e, Go.Oper.stillUpon_value]
  exact hK _ h
end
end Go.Proofs.YtppdboadjefieaaGreat
