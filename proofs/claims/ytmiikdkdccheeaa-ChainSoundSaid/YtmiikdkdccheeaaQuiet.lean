/- Structs loaded and compared in a region that draws its order and only reads, for the quiet walk. No program in sight. -/
import Derived.WalkKit
import Derived.ProofKit
import Derived.Deep.MidRow
import Derived.Laws.StructEq
import Derived.Deep.QuietTactic
import Derived.BigQuiet
namespace Go.Proofs.Ytmiikdkdccheeaa
set_option linter.unusedSimpArgs false
set_option linter.unusedVariables false
open Go
set_option linter.unusedVariables false

section
variable {P : Program} {ops : Array Oper} {rest : List Oper} {o : Oper} {a : Act} {C : World → Prop} {Q : Act → Prop}
/-- A struct is loaded out of the midst of a block; behind a guard that is met, too. -/
theorem wpQuiet_load_at (ty : TypeId) (x : Operand) (b off : Nat) (cs : List Value) (d : TypeDesc) (dst : Option Tmp) (hb : ∀ w, C w → w.rangeAt b off cs)
    (hu : P.underlying ty = some d) (hd : d.isRow = true) (hi : (P.info? ty).map (·.size) = some cs.length)
    (hg : Region.wanted o (yielded ops a.tmps) = true) (ho : o.op = .load ty x) (hds : o.dst = dst) (hx : a.eval x = .pointer (some ⟨b, off, none⟩))
    (h : ∀ K : Act → Prop, (∀ a, wpQuiet P ops C Q rest a → K a) → K (a.put dst (.agg cs.toArray))) : wpQuiet P ops C Q (o :: rest) a := by
  subst hds
  refine wpQuiet_step (fun K hK => ?_)
  rw [if_pos hg]
  refine ⟨.agg cs.toArray, fun w hw => ?_, h K hK⟩
  unfold Go.Oper.quietAt
  have e : (execOp a.eval o).run P w = .ok (.value (.agg cs.toArray)) w := by
    unfold execOp
    simp only [ho, hx, Instr.loadAt, Instr.sureAddr, Sem.run_bind, Sem.run_pure, Result.andThen_ok, run_loadVar_mid w b off ty cs d (hb w hw) hu hd hi]
  rw [e]
  exact ⟨rfl, rfl⟩
theorem wpQuiet_eq_agg (t t' : TypeId) (x y : Operand) (xs ys : Array Value) (r : Bool) (d : Option Tmp)
    (hm : P.eqGuardType P.depth t = false) (hq : ∀ w, (Op.equalIn 10000 t (.agg xs) (.agg ys)).run P w = .ok r w)
    (hg : Region.wanted o (yielded ops a.tmps) = true) (ho : o.op = .binOp .eql t x y t') (hd : o.dst = d) (hx : a.eval x = .agg xs) (hy : a.eval y = .agg ys)
    (h : ∀ K : Act → Prop, (∀ a, wpQuiet P ops C Q rest a → K a) → K (a.put d (.bool r))) : wpQuiet P ops C Q (o :: rest) a := by
  subst hd
  refine wpQuiet_step (fun K hK => ?_)
  rw [if_pos hg]
  refine ⟨.bool r, fun w hw => ?_, h K hK⟩
  unfold Go.Oper.quietAt
  have e : (execOp a.eval o).run P w = .ok (.value (.bool r)) w := by
    unfold execOp
    simp only [ho, hx, hy, Sem.run_bind, run_eqGuard_agg w _ t x y xs ys hm, Result.andThen_ok, run_eql_struct, hq w, Sem.run_pure]
  rw [e]
  exact ⟨rfl, rfl⟩
end
end Go.Proofs.Ytmiikdkdccheeaa
