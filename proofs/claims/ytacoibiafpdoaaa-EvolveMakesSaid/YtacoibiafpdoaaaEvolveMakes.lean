/- EvolveMakes: the law's statement from its walk. -/
import Derived.Test.YtacoibiafpdoaaaFacts
import Derived.Test.YtacoibiafpdoaaaWEvolveMakes
import Derived.Test.YtacoibiafpdoaaaOpen
import Derived.OpenShut
import Derived.ShutString
import Derived.ChangeOld
namespace Go.Proofs.Ytacoibiafpdoaaa
open Go Go.RowKit
open Go.ChangeShapes Go.WideShapes Go.ChangeAt
open Go.ChangeMaps (open_string shut_string)
set_option linter.unusedVariables false

theorem evolveMakes_own : ownKnob Try.prog.godebug = none := by kernel_rfl
set_option maxRecDepth 100000 in
theorem evolveMakes_lifted (os : Os) (started : os.Started) (H : Type) (enc : TypeId × Value → H) :
    ReturnsInHanded {} Try.checked os 20 .any (Rows.evolveMakesSpec.pre6 enc Try.prog Try.f20 Rows.evolveMakesRow.domain false) (Rows.evolveMakesSpec.post enc Try.prog Try.f20 false true false false) := by
  refine returnsInHanded_of_change (C := Try.checked) evolveMakes_own started (by kernel_rfl) Try.func20
    (ChangeSpec.witness6 (enc := enc) (C := Try.checked) false ⟨#[], #[.string ByteArray.empty, .int .i64 0], []⟩ 8 (by kernel_rfl) (by kernel_rfl) (by kernel_rfl) (by kernel_rfl)) ?_
  intro W base args ds gs before hval0 hW hcnd _
  have hval : ∀ (j : Nat) t v, Try.f20.params[j]? = some t → args[j]? = some v → Value.okWide Try.prog W .any base t v := hval0
  have hW' := hW
  obtain ⟨p, q, hA0, hV, rfl, hfz, hnd⟩ := hW
  have hA : DataW.TrodAll enc Try.prog W 0 (fun _ => true) true Try.f20.params.toList args.toList ds p := hA0
  rw [Try.params20] at hA hval
  obtain ⟨v0, vs0, d0, ds0, p0, q0, hargs, rfl, rfl, h0, r0⟩ := trodAll_cons hA
  obtain ⟨v1, vs1, d1, ds1, p1, q1, rfl, rfl, rfl, h1, r1⟩ := trodAll_cons r0
  obtain ⟨rfl, rfl, rfl⟩ := trodAll_nil r1
  obtain rfl : args = #[v0, v1] := by cases args; simp_all
  obtain ⟨rfl, rfl⟩ := trodVars_none hV
  obtain ⟨a0, rfl, rfl, rfl, w0⟩ := open_string Try.underlying9 (hval 0 9 v0 rfl rfl) h0
  obtain ⟨a1, rfl, rfl, rfl, w1⟩ := open_int Try.underlying3 (hval 1 3 v1 rfl rfl) h1
  clear hA0 hval0
  refine (evolveMakes_walk a0 a1 W (fits_of_wf w1)).mono fun e W' ⟨he, bel⟩ => ?_
  subst he
  exact ⟨_, rfl, _, _, _, [], _, [], hW', trodAll_mk1 (shut_bool Try.underlying4 _), (trodAll_cons_mk (shut_string Try.underlying9 w0) (trodAll_cons_mk (shut_int Try.underlying3 w1) trodAll_mk0)), rfl, bel.frame _, fun h => by cases h⟩

theorem evolveMakes_f1 : (Try.pinned).checked.prog.funcNamed Rows.evolveMakesRow.func = some 20 := by kernel_rfl
theorem evolveMakes_f2 : joinedFacts Try.prog 20 Try.f20 Rows.evolveMakesSpec Rows.evolveMakesRow = true := by
  unfold joinedFacts
  rw [fact_mayEnter, fact_lifted, fact_make]
  kernel_rfl
theorem evolveMakes_f3 : Func.isInstance (Try.pinned).checked.prog Try.f20 Rows.evolveMakesRow.origin Rows.evolveMakesRow.targs := of_decide_eq_true (by kernel_rfl)
theorem evolveMakes_f4 : Func.isWrapper (Try.pinned).checked.prog Try.f20 Rows.evolveMakesRow.wrapper Rows.evolveMakesRow.mainSum := by
  unfold Func.isWrapper; rw [if_neg (of_decide_eq_false (by kernel_rfl))]; exact ⟨rfl, rfl⟩
theorem evolveMakes_over : Rows.evolveMakesRow.holds Try.pinned (OpenSpec.ofChange Rows.evolveMakesSpec) :=
  OpenClaim.holds_of_wide 20 Try.f20 rfl rfl rfl rfl rfl rfl rfl ⟨rfl, rfl, rfl, rfl, rfl⟩ rfl rfl rfl rfl rfl evolveMakes_f1 Try.func20 evolveMakes_f2 evolveMakes_f3 evolveMakes_f4
    (fun os started H enc _ => evolveMakes_lifted os started H enc)

theorem evolveMakes_proved : Rows.EvolveMakesSaid := evolveMakes_over
end Go.Proofs.Ytacoibiafpdoaaa
