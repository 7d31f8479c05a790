/- ChainSum: the law's statement from its walk. -/
import Derived.Test.YtacoibiafpdoaaaFacts
import Derived.Test.YtacoibiafpdoaaaWChainSum
import Derived.Test.YtacoibiafpdoaaaOpen
import Derived.Test.YtacoibiafpdoaaaOpen3
import Derived.OpenShut
import Derived.ShutString
import Derived.ChangeOld
namespace Go.Proofs.Ytacoibiafpdoaaa
open Go Go.RowKit
open Go.ChangeShapes Go.WideShapes Go.ChangeAt
open Go.ChangeMaps (open_string shut_string)
set_option linter.unusedVariables false

theorem chainSum_own : ownKnob Try.prog.godebug = none := by kernel_rfl
set_option maxRecDepth 100000 in
theorem chainSum_lifted (os : Os) (started : os.Started) (H : Type) (enc : TypeId × Value → H) :
    ReturnsInHanded {} Try.checked os 11 .any (Rows.chainSumSpec.pre6 enc Try.prog Try.f11 Rows.chainSumRow.domain false) (Rows.chainSumSpec.post enc Try.prog Try.f11 false true false false) := by
  refine returnsInHanded_of_change (C := Try.checked) chainSum_own started (by kernel_rfl) Try.func11
    (ChangeSpec.witness6 (enc := enc) (C := Try.checked) false ⟨#[], #[.slice none 0 0, .slice none 0 0], []⟩ 8 (by kernel_rfl) (by kernel_rfl) (by kernel_rfl) (by kernel_rfl)) ?_
  intro W base args ds gs before hval0 hW hcnd _
  have hval : ∀ (j : Nat) t v, Try.f11.params[j]? = some t → args[j]? = some v → Value.okWide Try.prog W .any base t v := hval0
  have hW' := hW
  obtain ⟨p, q, hA0, hV, rfl, hfz, hnd⟩ := hW
  have hA : DataW.TrodAll enc Try.prog W 0 (fun _ => true) true Try.f11.params.toList args.toList ds p := hA0
  rw [Try.params11] at hA hval
  obtain ⟨v0, vs0, d0, ds0, p0, q0, hargs, rfl, rfl, h0, r0⟩ := trodAll_cons hA
  obtain ⟨v1, vs1, d1, ds1, p1, q1, rfl, rfl, rfl, h1, r1⟩ := trodAll_cons r0
  obtain ⟨rfl, rfl, rfl⟩ := trodAll_nil r1
  obtain rfl : args = #[v0, v1] := by cases args; simp_all
  obtain ⟨rfl, rfl⟩ := trodVars_none hV
  have k0 := h0
  have lt0 := trod_lt' h0
  obtain ⟨a0, w0⟩ := slds_in (okWide_slice Try.underlying30 (hval 0 30 v0 rfl rfl)) h0
  have k1 := h1
  have lt1 := trod_lt' h1
  obtain ⟨a1, w1⟩ := slds_in (okWide_slice Try.underlying30 (hval 1 30 v1 rfl rfl)) h1
  clear hA0 hval0
  refine (chainSum_law v0 a0 v1 a1 W w0 w1).mono fun e W' ⟨he, bel⟩ => ?_
  subst he
  exact ⟨_, rfl, _, _, _, [], _, [], hW', trodAll_mk1 (shut_bool Try.underlying4 _), (trodAll_cons_mk (Below.trod fact_laidOut (by kernel_rfl) (of_decide_eq_true (by kernel_rfl)) k0 bel lt0) (trodAll_cons_mk (Below.trod fact_laidOut (by kernel_rfl) (of_decide_eq_true (by kernel_rfl)) k1 bel lt1) trodAll_mk0)), rfl, bel.frame _, fun h => by cases h⟩

theorem chainSum_f1 : (Try.pinned).checked.prog.funcNamed Rows.chainSumRow.func = some 11 := by kernel_rfl
theorem chainSum_f2 : joinedFacts Try.prog 11 Try.f11 Rows.chainSumSpec Rows.chainSumRow = true := by
  unfold joinedFacts
  rw [fact_mayEnter, fact_lifted, fact_make]
  kernel_rfl
theorem chainSum_f3 : Func.isInstance (Try.pinned).checked.prog Try.f11 Rows.chainSumRow.origin Rows.chainSumRow.targs := of_decide_eq_true (by kernel_rfl)
theorem chainSum_f4 : Func.isWrapper (Try.pinned).checked.prog Try.f11 Rows.chainSumRow.wrapper Rows.chainSumRow.mainSum := by
  unfold Func.isWrapper; rw [if_neg (of_decide_eq_false (by kernel_rfl))]; exact ⟨rfl, rfl⟩
theorem chainSum_over : Rows.chainSumRow.holds Try.pinned (OpenSpec.ofChange Rows.chainSumSpec) :=
  OpenClaim.holds_of_wide 11 Try.f11 rfl rfl rfl rfl rfl rfl rfl ⟨rfl, rfl, rfl, rfl, rfl⟩ rfl rfl rfl rfl rfl chainSum_f1 Try.func11 chainSum_f2 chainSum_f3 chainSum_f4
    (fun os started H enc _ => chainSum_lifted os started H enc)

theorem chainSum_proved : Rows.ChainSumSaid := chainSum_over
end Go.Proofs.Ytacoibiafpdoaaa
