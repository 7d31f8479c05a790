/- VolNil: the law's statement from its walk. -/
import Derived.Test.YtppdboadjefieaaGreatQ1
import Derived.Test.YtppdboadjefieaaGreatQ30
import Derived.Test.YtppdboadjefieaaGreatQ5
import Derived.OpenShut
import Derived.ShutString
import Derived.ChangeOld
set_option linter.unusedSimpArgs false
set_option linter.unusedVariables false
namespace Go.Proofs.YtppdboadjefieaaGreat
open Go Go.RowKit
open Go.ChangeShapes Go.WideShapes Go.ChangeAt
open Go.ChangeMaps (open_string shut_string)

theorem volNil_own : ownKnob Tryz.prog.godebug = none := by kernel_rfl
set_option maxRecDepth 100000 in
theorem volNil_lifted (os : Os) (started : os.Started) (H : Type) (enc : TypeId × Value → H) :
    ReturnsInHanded {} Tryz.checked os 5 .any (Rows.volNilSpec.pre6 enc Tryz.prog Tryz.f5 Rows.volNilRow.domain false) (Rows.volNilSpec.post enc Tryz.prog Tryz.f5 false true false false) := by
  refine returnsInHanded_of_change (C := Tryz.checked) volNil_own started (by kernel_rfl) Tryz.func5
    (ChangeSpec.witness6 (enc := enc) (C := Tryz.checked) false ⟨#[], #[.agg #[.int .i64 0, .int .i64 0, .int .i64 0, .int .i64 0, .string ByteArray.empty, .string ByteArray.empty, .slice none 0 0], .bool false], []⟩ 8 (by kernel_rfl) (by kernel_rfl) (by kernel_rfl) (by kernel_rfl)) ?_
  intro W base args ds gs before hval0 hW hcnd _
  have hval : ∀ (j : Nat) t v, Tryz.f5.params[j]? = some t → args[j]? = some v → Value.okWide Tryz.prog W .any base t v := hval0
  have hW' := hW
  obtain ⟨p, q, hA0, hV, rfl, hfz, hnd⟩ := hW
  have hA : DataW.TrodAll enc Tryz.prog W 0 (fun _ => true) true Tryz.f5.params.toList args.toList ds p := hA0
  rw [Tryz.params5] at hA hval
  obtain ⟨v0, vs0, d0, ds0, p0, q0, hargs, rfl, rfl, h0, r0⟩ := trodAll_cons hA
  obtain ⟨v1, vs1, d1, ds1, p1, q1, rfl, rfl, rfl, h1, r1⟩ := trodAll_cons r0
  obtain ⟨rfl, rfl, rfl⟩ := trodAll_nil r1
  obtain rfl : args = #[v0, v1] := by cases args; simp_all
  obtain ⟨rfl, rfl⟩ := trodVars_none hV
  have k0 := h0
  have lt0 := trod_lt' h0
  obtain ⟨a0, rfl, w0⟩ := call_in (okWide_struct Tryz.underlying60 (hval 0 60 v0 rfl rfl)) h0
  obtain ⟨a1, rfl, rfl, rfl⟩ := open_bool Tryz.underlying4 (hval 1 4 v1 rfl rfl) h1
  clear hA0 hval0
  refine (volNil_walk a0 a1 W w0).mono fun e W' ⟨he, bel⟩ => ?_
  subst he
  exact ⟨_, rfl, _, _, _, [], _, [], hW', trodAll_mk1 (shut_bool Tryz.underlying4 _), (trodAll_cons_mk (Below.trod fact_laidOut (by kernel_rfl) (of_decide_eq_true (by kernel_rfl)) k0 bel lt0) (trodAll_cons_mk (shut_bool Tryz.underlying4 _) trodAll_mk0)), rfl, bel.frame _, fun h => by cases h⟩

theorem volNil_f1 : (Tryz.pinned).checked.prog.funcNamed Rows.volNilRow.func = some 5 := by kernel_rfl
theorem volNil_g1 : (Rows.volNilRow.inPlace == Tryz.prog.inPlace 5) = true := by kernel_rfl
theorem volNil_g2 : (Rows.volNilRow.unfollowed == Tryz.prog.unfollowed 5) = true := by kernel_rfl
theorem volNil_g3 : (Rows.volNilRow.recurses == Tryz.prog.recurses 5) = true := by kernel_rfl
theorem volNil_g4 : (Rows.volNilRow.named == Tryz.prog.varsNamed 5) = true := by kernel_rfl
theorem volNil_f2 : joinedFacts Tryz.prog 5 Tryz.f5 Rows.volNilSpec Rows.volNilRow = true := by
  unfold joinedFacts
  rw [fact_mayEnter, fact_lifted, fact_make, volNil_g1, volNil_g2, volNil_g3, volNil_g4]
  kernel_rfl
theorem volNil_f3 : Func.isInstance (Tryz.pinned).checked.prog Tryz.f5 Rows.volNilRow.origin Rows.volNilRow.targs := of_decide_eq_true (by kernel_rfl)
theorem volNil_f4 : Func.isWrapper (Tryz.pinned).checked.prog Tryz.f5 Rows.volNilRow.wrapper Rows.volNilRow.mainSum := by
  unfold Func.isWrapper; rw [if_neg (of_decide_eq_false (by kernel_rfl))]; exact ⟨rfl, rfl⟩
theorem volNil_over : Rows.volNilRow.holds Tryz.pinned (OpenSpec.ofChange Rows.volNilSpec) :=
  OpenClaim.holds_of_wide 5 Tryz.f5 rfl rfl rfl rfl rfl rfl rfl ⟨rfl, rfl, rfl, rfl, rfl⟩ rfl rfl rfl rfl rfl volNil_f1 Tryz.func5 volNil_f2 volNil_f3 volNil_f4
    (fun os started H enc _ => volNil_lifted os started H enc)

theorem volNil_proved : Rows.VolNilSaid := volNil_over
end Go.Proofs.YtppdboadjefieaaGreat

