/- SimNil: the law's statement from its walk. -/
import Derived.Test.YtppdboadjefieaaGreatFacts
import Derived.Test.YtppdboadjefieaaGreatWSimNil
import Derived.Test.YtppdboadjefieaaGreatG3
import Derived.Test.YtppdboadjefieaaGreatOpenGeo
import Derived.OpenShut
import Derived.ShutString
import Derived.ChangeOld
namespace Go.Proofs.YtppdboadjefieaaGreat
set_option linter.unusedSimpArgs false
set_option linter.unusedVariables false
open Go Go.RowKit
open Go.ChangeShapes Go.WideShapes Go.ChangeAt
open Go.ChangeMaps (open_string shut_string)
set_option linter.unusedVariables false

theorem simNil_own : ownKnob Tryz.prog.godebug = none := by kernel_rfl
set_option maxRecDepth 100000 in
theorem simNil_lifted (os : Os) (started : os.Started) (H : Type) (enc : TypeId × Value → H) :
    ReturnsInHanded {} Tryz.checked os 4 .any (Rows.simNilSpec.pre6 enc Tryz.prog Tryz.f4 Rows.simNilRow.domain false) (Rows.simNilSpec.post enc Tryz.prog Tryz.f4 false true false false) := by
  refine returnsInHanded_of_change (C := Tryz.checked) simNil_own started (by kernel_rfl) Tryz.func4
    (ChangeSpec.witness6 (enc := enc) (C := Tryz.checked) false ⟨#[], #[.agg #[.int .i64 0, .int .i64 0, .int .i64 0], .bool false], []⟩ 8 (by kernel_rfl) (by kernel_rfl) (by kernel_rfl) (by kernel_rfl)) ?_
  intro W base args ds gs before hval0 hW hcnd _
  have hval : ∀ (j : Nat) t v, Tryz.f4.params[j]? = some t → args[j]? = some v → Value.okWide Tryz.prog W .any base t v := hval0
  have hW' := hW
  obtain ⟨p, q, hA0, hV, rfl, hfz, hnd⟩ := hW
  have hA : DataW.TrodAll enc Tryz.prog W 0 (fun _ => true) true Tryz.f4.params.toList args.toList ds p := hA0
  rw [Tryz.params4] at hA hval
  obtain ⟨v0, vs0, d0, ds0, p0, q0, hargs, rfl, rfl, h0, r0⟩ := trodAll_cons hA
  obtain ⟨v1, vs1, d1, ds1, p1, q1, rfl, rfl, rfl, h1, r1⟩ := trodAll_cons r0
  obtain ⟨rfl, rfl, rfl⟩ := trodAll_nil r1
  obtain rfl : args = #[v0, v1] := by cases args; simp_all
  obtain ⟨rfl, rfl⟩ := trodVars_none hV
  have k0 := h0
  have lt0 := trod_lt' h0
  obtain ⟨a0, rfl, w0⟩ := geo_in (okWide_struct Tryz.underlying23 (hval 0 23 v0 rfl rfl)) h0
  obtain ⟨a1, rfl, rfl, rfl⟩ := open_bool Tryz.underlying4 (hval 1 4 v1 rfl rfl) h1
  clear hA0 hval0
  refine (simNil_law a0 a1 W w0).mono fun e W' ⟨he, bel⟩ => ?_
  subst he
  exact ⟨_, rfl, _, _, _, [], _, [], hW', trodAll_mk1 (shut_bool Tryz.underlying4 _), (trodAll_cons_mk (Below.trod fact_laidOut (by kernel_rfl) (of_decide_eq_true (by kernel_rfl)) k0 bel lt0) (trodAll_cons_mk (shut_bool Tryz.underlying4 _) trodAll_mk0)), rfl, bel.frame _, fun h => by cases h⟩

theorem simNil_f1 : (Tryz.pinned).checked.prog.funcNamed Rows.simNilRow.func = some 4 := by kernel_rfl
theorem simNil_g1 : (Rows.simNilRow.inPlace == Tryz.prog.inPlace 4) = true := by kernel_rfl
theorem simNil_g2 : (Rows.simNilRow.unfollowed == Tryz.prog.unfollowed 4) = true := by kernel_rfl
theorem simNil_g3 : (Rows.simNilRow.recurses == Tryz.prog.recurses 4) = true := by kernel_rfl
theorem simNil_g4 : (Rows.simNilRow.named == Tryz.prog.varsNamed 4) = true := by kernel_rfl
theorem simNil_f2 : joinedFacts Tryz.prog 4 Tryz.f4 Rows.simNilSpec Rows.simNilRow = true := by
  unfold joinedFacts
  rw [fact_mayEnter, fact_lifted, fact_make, simNil_g1, simNil_g2, simNil_g3, simNil_g4]
  kernel_rfl
theorem simNil_f3 : Func.isInstance (Tryz.pinned).checked.prog Tryz.f4 Rows.simNilRow.origin Rows.simNilRow.targs := of_decide_eq_true (by kernel_rfl)
theorem simNil_f4 : Func.isWrapper (Tryz.pinned).checked.prog Tryz.f4 Rows.simNilRow.wrapper Rows.simNilRow.mainSum := by
  unfold Func.isWrapper; rw [if_neg (of_decide_eq_false (by kernel_rfl))]; exact ⟨rfl, rfl⟩
theorem simNil_over : Rows.simNilRow.holds Tryz.pinned (OpenSpec.ofChange Rows.simNilSpec) :=
  OpenClaim.holds_of_wide 4 Tryz.f4 rfl rfl rfl rfl rfl rfl rfl ⟨rfl, rfl, rfl, rfl, rfl⟩ rfl rfl rfl rfl rfl simNil_f1 Tryz.func4 simNil_f2 simNil_f3 simNil_f4
    (fun os started H enc _ => simNil_lifted os started H enc)

theorem simNil_proved : Rows.SimNilSaid := simNil_over
end Go.Proofs.YtppdboadjefieaaGreat
