/- A struct loaded out of the midst of a block, behind a guard that is met. No program in sight. -/
import Derived.WalkKit
import Derived.ProofKit
import Derived.Deep.MidRow
namespace Go.Proofs.YtppdboadjefieaaGreat
set_option linter.unusedSimpArgs false
set_option linter.unusedVariables false
open Go
set_option linter.unusedVariables false

section
variable {P : Program} {ops : Array Oper} {rest : List Oper} {o : Oper} {a : Act} {w : World} {Q : Exit → Act → World → Prop}
theorem wpList_load_met (ty : TypeId) (x : Operand) (b off : Nat) (cs : List Value) (d : TypeDesc) (dst : Option Tmp) (hb : w.rangeAt b off cs)
    (hu : P.underlying ty = some d) (hd : d.isRow = true) (hi : (P.info? ty).map (·.size) = some cs.length)
    (hg : Region.wanted o (yielded ops a.tmps) = true) (ho : o.op = .load ty x) (hds : o.dst = dst) (hx : a.eval x = .pointer (some ⟨b, off, none⟩))
    (h : wpList P ops Q rest (a.put dst (.agg cs.toArray)) w) : wpList P ops Q (o :: rest) a w := by
  subst hds
  unfold wpList
  rw [if_pos hg]
  refine .inl ?_
  unfold Go.Oper.wp
  have e : (execOp a.eval o).run P w = .ok (.value (.agg cs.toArray)) w := by
    unfold execOp
    simp only [ho, hx, Instr.loadAt, Instr.sureAddr, Sem.run_bind, Sem.run_pure, Result.andThen_ok, run_loadVar_mid w b off ty cs d hb hu hd hi]
  rw [e]
  exact h
end
end Go.Proofs.YtppdboadjefieaaGreat
