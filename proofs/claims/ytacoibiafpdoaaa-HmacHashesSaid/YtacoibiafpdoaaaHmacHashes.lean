/- HmacHashes: the law's statement from its walk. -/
import Derived.Test.YtacoibiafpdoaaaFacts
import Derived.Test.YtacoibiafpdoaaaWHmacHashes
import Derived.Test.YtacoibiafpdoaaaOpen
import Derived.OpenShut
import Derived.ShutString
import Derived.ChangeOld
namespace Go.Proofs.Ytacoibiafpdoaaa
open Go Go.RowKit
open Go.ChangeShapes Go.WideShapes Go.ChangeAt
open Go.ChangeMaps (open_string shut_string)
set_option linter.unusedVariables false

theorem hmacHashes_own : ownKnob Try.prog.godebug = none := by kernel_rfl
set_option maxRecDepth 100000 in
theorem hmacHashes_lifted (os : Os) (started : os.Started) (H : Type) (enc : TypeId × Value → H) :
    ReturnsInHanded {} Try.checked os 9 .any (Rows.hmacHashesSpec.pre6 enc Try.prog Try.f9 Rows.hmacHashesRow.domain false) (Rows.hmacHashesSpec.post enc Try.prog Try.f9 false true false false) := by
  refine returnsInHanded_of_change (C := Try.checked) hmacHashes_own started (by kernel_rfl) Try.func9
    (ChangeSpec.witness6 (enc := enc) (C := Try.checked) false ⟨#[], #[.string ByteArray.empty, .slice none 0 0], []⟩ 8 (by kernel_rfl) (by kernel_rfl) (by kernel_rfl) (by kernel_rfl)) ?_
  intro W base args ds gs before hval0 hW hcnd _
  have hval : ∀ (j : Nat) t v, Try.f9.params[j]? = some t → args[j]? = some v → Value.okWide Try.prog W .any base t v := hval0
  have hW' := hW
  obtain ⟨p, q, hA0, hV, rfl, hfz, hnd⟩ := hW
  have hA : DataW.TrodAll enc Try.prog W 0 (fun _ => true) true Try.f9.params.toList args.toList ds p := hA0
  rw [Try.params9] at hA hval
  obtain ⟨v0, vs0, d0, ds0, p0, q0, hargs, rfl, rfl, h0, r0⟩ := trodAll_cons hA
  obtain ⟨v1, vs1, d1, ds1, p1, q1, rfl, rfl, rfl, h1, r1⟩ := trodAll_cons r0
  obtain ⟨rfl, rfl, rfl⟩ := trodAll_nil r1
  obtain rfl : args = #[v0, v1] := by cases args; simp_all
  obtain ⟨rfl, rfl⟩ := trodVars_none hV
  obtain ⟨a0, rfl, rfl, rfl, w0⟩ := open_string Try.underlying9 (hval 0 9 v0 rfl rfl) h0
  have k1 := h1
  have lt1 := trod_lt' h1
  obtain ⟨a1, w1⟩ := strs_in Try.underlying61 Try.underlying9 (by kernel_rfl) (okWide_slice Try.underlying61 (hval 1 61 v1 rfl rfl)) h1
  clear hA0 hval0
  refine (hmacHashes_walk a0 v1 a1 W w1).mono fun e W' ⟨he, bel⟩ => ?_
  subst he
  exact ⟨_, rfl, _, _, _, [], _, [], hW', trodAll_mk1 (shut_bool Try.underlying4 _), (trodAll_cons_mk (shut_string Try.underlying9 w0) (trodAll_cons_mk (Below.trod fact_laidOut (by kernel_rfl) (of_decide_eq_true (by kernel_rfl)) k1 bel lt1) trodAll_mk0)), rfl, bel.frame _, fun h => by cases h⟩

theorem hmacHashes_f1 : (Try.pinned).checked.prog.funcNamed Rows.hmacHashesRow.func = some 9 := by kernel_rfl
theorem hmacHashes_f2 : joinedFacts Try.prog 9 Try.f9 Rows.hmacHashesSpec Rows.hmacHashesRow = true := by
  unfold joinedFacts
  rw [fact_mayEnter, fact_lifted, fact_make]
  kernel_rfl
theorem hmacHashes_f3 : Func.isInstance (Try.pinned).checked.prog Try.f9 Rows.hmacHashesRow.origin Rows.hmacHashesRow.targs := of_decide_eq_true (by kernel_rfl)
theorem hmacHashes_f4 : Func.isWrapper (Try.pinned).checked.prog Try.f9 Rows.hmacHashesRow.wrapper Rows.hmacHashesRow.mainSum := by
  unfold Func.isWrapper; rw [if_neg (of_decide_eq_false (by kernel_rfl))]; exact ⟨rfl, rfl⟩
theorem hmacHashes_over : Rows.hmacHashesRow.holds Try.pinned (OpenSpec.ofChange Rows.hmacHashesSpec) :=
  OpenClaim.holds_of_wide 9 Try.f9 rfl rfl rfl rfl rfl rfl rfl ⟨rfl, rfl, rfl, rfl, rfl⟩ rfl rfl rfl rfl rfl hmacHashes_f1 Try.func9 hmacHashes_f2 hmacHashes_f3 hmacHashes_f4
    (fun os started H enc _ => hmacHashes_lifted os started H enc)

theorem hmacHashes_proved : Rows.HmacHashesSaid := hmacHashes_over
end Go.Proofs.Ytacoibiafpdoaaa
