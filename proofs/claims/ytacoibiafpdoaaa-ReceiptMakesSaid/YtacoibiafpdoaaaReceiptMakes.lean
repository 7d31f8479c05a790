/- ReceiptMakes: the law's statement from its walk. -/
import Derived.Test.YtacoibiafpdoaaaFacts
import Derived.Test.YtacoibiafpdoaaaWReceiptMakes
import Derived.Test.YtacoibiafpdoaaaG3
import Derived.Test.YtacoibiafpdoaaaG9
import Derived.OpenShut
import Derived.ShutString
import Derived.ChangeOld
namespace Go.Proofs.Ytacoibiafpdoaaa
open Go Go.RowKit
open Go.ChangeShapes Go.WideShapes Go.ChangeAt
open Go.ChangeMaps (open_string shut_string)
set_option linter.unusedVariables false

theorem receiptMakes_own : ownKnob Try.prog.godebug = none := by kernel_rfl
set_option maxRecDepth 100000 in
theorem receiptMakes_lifted (os : Os) (started : os.Started) (H : Type) (enc : TypeId × Value → H) :
    ReturnsInHanded {} Try.checked os 4 .any (Rows.receiptMakesSpec.pre6 enc Try.prog Try.f4 Rows.receiptMakesRow.domain false) (Rows.receiptMakesSpec.post enc Try.prog Try.f4 false true false false) := by
  refine returnsInHanded_of_change (C := Try.checked) receiptMakes_own started (by kernel_rfl) Try.func4
    (ChangeSpec.witness6 (enc := enc) (C := Try.checked) false ⟨#[], #[.slice none 0 0, .int .i64 0, .agg #[.int .i64 0, .int .i64 0, .int .i64 0, .int .i64 0, .int .i64 0, .int .i64 0, .int .i64 0, .string ByteArray.empty, .string ByteArray.empty, .string ByteArray.empty, .string ByteArray.empty]], []⟩ 8 (by kernel_rfl) (by kernel_rfl) (by kernel_rfl) (by kernel_rfl)) ?_
  intro W base args ds gs before hval0 hW hcnd _
  have hval : ∀ (j : Nat) t v, Try.f4.params[j]? = some t → args[j]? = some v → Value.okWide Try.prog W .any base t v := hval0
  have hW' := hW
  obtain ⟨p, q, hA0, hV, rfl, hfz, hnd⟩ := hW
  have hA : DataW.TrodAll enc Try.prog W 0 (fun _ => true) true Try.f4.params.toList args.toList ds p := hA0
  rw [Try.params4] at hA hval
  obtain ⟨v0, vs0, d0, ds0, p0, q0, hargs, rfl, rfl, h0, r0⟩ := trodAll_cons hA
  obtain ⟨v1, vs1, d1, ds1, p1, q1, rfl, rfl, rfl, h1, r1⟩ := trodAll_cons r0
  obtain ⟨v2, vs2, d2, ds2, p2, q2, rfl, rfl, rfl, h2, r2⟩ := trodAll_cons r1
  obtain ⟨rfl, rfl, rfl⟩ := trodAll_nil r2
  obtain rfl : args = #[v0, v1, v2] := by cases args; simp_all
  obtain ⟨rfl, rfl⟩ := trodVars_none hV
  have k0 := h0
  have lt0 := trod_lt' h0
  obtain ⟨a0, w0⟩ := slds_in (okWide_slice Try.underlying30 (hval 0 30 v0 rfl rfl)) h0
  obtain ⟨a1, rfl, rfl, rfl, w1⟩ := open_int Try.underlying3 (hval 1 3 v1 rfl rfl) h1
  have k2 := h2
  have lt2 := trod_lt' h2
  obtain ⟨a2, rfl, w2⟩ := rcp_in (okWide_struct Try.underlying34 (hval 2 34 v2 rfl rfl)) h2
  clear hA0 hval0
  refine (receiptMakes_law v0 a0 a1 a2 W w0 w2).mono fun e W' ⟨he, bel⟩ => ?_
  subst he
  exact ⟨_, rfl, _, _, _, [], _, [], hW', trodAll_mk1 (shut_bool Try.underlying4 _), (trodAll_cons_mk (Below.trod fact_laidOut (by kernel_rfl) (of_decide_eq_true (by kernel_rfl)) k0 bel lt0) (trodAll_cons_mk (shut_int Try.underlying3 w1) (trodAll_cons_mk (Below.trod fact_laidOut (by kernel_rfl) (of_decide_eq_true (by kernel_rfl)) k2 bel lt2) trodAll_mk0))), rfl, bel.frame _, fun h => by cases h⟩

theorem receiptMakes_f1 : (Try.pinned).checked.prog.funcNamed Rows.receiptMakesRow.func = some 4 := by kernel_rfl
theorem receiptMakes_f2 : joinedFacts Try.prog 4 Try.f4 Rows.receiptMakesSpec Rows.receiptMakesRow = true := by
  unfold joinedFacts
  rw [fact_mayEnter, fact_lifted, fact_make]
  kernel_rfl
theorem receiptMakes_f3 : Func.isInstance (Try.pinned).checked.prog Try.f4 Rows.receiptMakesRow.origin Rows.receiptMakesRow.targs := of_decide_eq_true (by kernel_rfl)
theorem receiptMakes_f4 : Func.isWrapper (Try.pinned).checked.prog Try.f4 Rows.receiptMakesRow.wrapper Rows.receiptMakesRow.mainSum := by
  unfold Func.isWrapper; rw [if_neg (of_decide_eq_false (by kernel_rfl))]; exact ⟨rfl, rfl⟩
theorem receiptMakes_over : Rows.receiptMakesRow.holds Try.pinned (OpenSpec.ofChange Rows.receiptMakesSpec) :=
  OpenClaim.holds_of_wide 4 Try.f4 rfl rfl rfl rfl rfl rfl rfl ⟨rfl, rfl, rfl, rfl, rfl⟩ rfl rfl rfl rfl rfl receiptMakes_f1 Try.func4 receiptMakes_f2 receiptMakes_f3 receiptMakes_f4
    (fun os started H enc _ => receiptMakes_lifted os started H enc)

theorem receiptMakes_proved : Rows.ReceiptMakesSaid := receiptMakes_over
end Go.Proofs.Ytacoibiafpdoaaa
