/- A store into a block, at the operation (for regions that draw their order). No program in sight. -/
import Derived.Test.YtppdboadjefieaaGreatTurn
import Derived.Deep.MidRow
namespace Go.Proofs.YtppdboadjefieaaGreat
set_option linter.unusedSimpArgs false
set_option linter.unusedVariables false
open Go Go.RowKit
set_option linter.unusedVariables false

section
variable {P : Program} {o : Oper} {a : Act} {w : World} {K : Act → World → Prop} {Q : Exit → Act → World → Prop}
/-- All cells of a block are stored, at the operation. -/
theorem wp_store_all (ty : TypeId) (x y : Operand) (b : Nat) (old cs : List Value) (t : TypeId) (hb : Blk w b old t) (hl : cs.length = old.length)
    (hi : (P.info? ty).map (·.size) = some cs.length) (h1 : ∀ v ∈ cs, v.oneCell' = true)
    (ho : o.op = .store ty x y) (hx : a.eval x = .pointer (some ⟨b, 0, none⟩)) (hy : a.eval y = .agg cs.toArray)
    (h : ∀ w', Blk w' b cs t → Only b w w' → K (a.put o.dst undef) w') : o.wp P a w K Q :=
  wp_store_mid ty x y ho b 0 cs.toArray hx hy (World.there_of hb (by simpa using hl)) (by simpa using hi) (all_oneCell_toArray h1) (by simpa using h _ (hb.setAll cs hl) ((Only.refl b w).setCells cs 0))
end
theorem results_cell1v {fn : Func} {p : Tmp} {ty : TypeId} {cs : List Value} {d : TypeDesc} (h : fn.results = #[.cell p ty]) (tmps : Array Value) (w : World) {b : Nat} (hb : w.rangeAt b 0 cs) (hp : tmps.getD p undef = .pointer (some ⟨b, 0, none⟩))
    (hu : Tryz.prog.underlying ty = some d) (hd : d.isRow = true) (hi : (Tryz.prog.info? ty).map (·.size) = some cs.length) :
    (results fn tmps).run Tryz.prog w = .ok (.agg cs.toArray) w := by
  have e := run_loadVar_mid (P := Tryz.prog) w b 0 ty cs _ hb hu hd hi
  have e0 : (results fn tmps).run Tryz.prog w = ((asAddr (tmps.getD p undef)).run Tryz.prog w).andThen fun a w₁ => (loadVar ty a).run Tryz.prog w₁ := by
    simp only [results, h]
    simp [Sem.run_bind]
  rw [e0, hp]
  simp only [asAddr, Sem.run_pure, Result.andThen_ok, e]
end Go.Proofs.YtppdboadjefieaaGreat
