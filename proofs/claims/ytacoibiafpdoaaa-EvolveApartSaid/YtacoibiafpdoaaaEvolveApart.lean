/- EvolveApart: the law's statement from its walk. -/
import Derived.Test.YtacoibiafpdoaaaFacts
import Derived.Test.YtacoibiafpdoaaaWEvolveApart
import Derived.Test.YtacoibiafpdoaaaOpen
import Derived.OpenShut
import Derived.ShutString
import Derived.ChangeOld
namespace Go.Proofs.Ytacoibiafpdoaaa
open Go Go.RowKit
open Go.ChangeShapes Go.WideShapes Go.ChangeAt
open Go.ChangeMaps (open_string shut_string)
set_option linter.unusedVariables false

theorem evolveApart_own : ownKnob Try.prog.godebug = none := by kernel_rfl
set_option maxRecDepth 100000 in
theorem evolveApart_lifted (os : Os) (started : os.Started) (H : Type) (enc : TypeId × Value → H) :
    ReturnsInHanded {} Try.checked os 16 .any (Rows.evolveApartSpec.pre6 enc Try.prog Try.f16 Rows.evolveApartRow.domain false) (Rows.evolveApartSpec.post enc Try.prog Try.f16 false true false false) := by
  refine returnsInHanded_of_change (C := Try.checked) evolveApart_own started (by kernel_rfl) Try.func16
    (ChangeSpec.witness6 (enc := enc) (C := Try.checked) false ⟨#[], #[.string ByteArray.empty], []⟩ 8 (by kernel_rfl) (by kernel_rfl) (by kernel_rfl) (by kernel_rfl)) ?_
  intro W base args ds gs before hval0 hW hcnd _
  have hval : ∀ (j : Nat) t v, Try.f16.params[j]? = some t → args[j]? = some v → Value.okWide Try.prog W .any base t v := hval0
  have hW' := hW
  obtain ⟨p, q, hA0, hV, rfl, hfz, hnd⟩ := hW
  have hA : DataW.TrodAll enc Try.prog W 0 (fun _ => true) true Try.f16.params.toList args.toList ds p := hA0
  rw [Try.params16] at hA hval
  obtain ⟨v0, vs0, d0, ds0, p0, q0, hargs, rfl, rfl, h0, r0⟩ := trodAll_cons hA
  obtain ⟨rfl, rfl, rfl⟩ := trodAll_nil r0
  obtain rfl : args = #[v0] := by cases args; simp_all
  obtain ⟨rfl, rfl⟩ := trodVars_none hV
  obtain ⟨a0, rfl, rfl, rfl, w0⟩ := open_string Try.underlying9 (hval 0 9 v0 rfl rfl) h0
  clear hA0 hval0
  refine (evolveApart_walk a0 W).mono fun e W' ⟨he, bel⟩ => ?_
  subst he
  exact ⟨_, rfl, _, _, _, [], _, [], hW', trodAll_mk1 (shut_bool Try.underlying4 _), (trodAll_cons_mk (shut_string Try.underlying9 w0) trodAll_mk0), rfl, bel.frame _, fun h => by cases h⟩

theorem evolveApart_f1 : (Try.pinned).checked.prog.funcNamed Rows.evolveApartRow.func = some 16 := by kernel_rfl
theorem evolveApart_f2 : joinedFacts Try.prog 16 Try.f16 Rows.evolveApartSpec Rows.evolveApartRow = true := by
  unfold joinedFacts
  rw [fact_mayEnter, fact_lifted, fact_make]
  kernel_rfl
theorem evolveApart_f3 : Func.isInstance (Try.pinned).checked.prog Try.f16 Rows.evolveApartRow.origin Rows.evolveApartRow.targs := of_decide_eq_true (by kernel_rfl)
theorem evolveApart_f4 : Func.isWrapper (Try.pinned).checked.prog Try.f16 Rows.evolveApartRow.wrapper Rows.evolveApartRow.mainSum := by
  unfold Func.isWrapper; rw [if_neg (of_decide_eq_false (by kernel_rfl))]; exact ⟨rfl, rfl⟩
theorem evolveApart_over : Rows.evolveApartRow.holds Try.pinned (OpenSpec.ofChange Rows.evolveApartSpec) :=
  OpenClaim.holds_of_wide 16 Try.f16 rfl rfl rfl rfl rfl rfl rfl ⟨rfl, rfl, rfl, rfl, rfl⟩ rfl rfl rfl rfl rfl evolveApart_f1 Try.func16 evolveApart_f2 evolveApart_f3 evolveApart_f4
    (fun os started H enc _ => evolveApart_lifted os started H enc)

theorem evolveApart_proved : Rows.EvolveApartSaid := evolveApart_over
end Go.Proofs.Ytacoibiafpdoaaa
