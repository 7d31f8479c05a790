/- ExtractRight, where what is read is of bulk at most 1048576: the law's statement from its walk. -/
import Derived.Test.YtidekfbgjghcjaaGreatFacts
import Derived.Test.YtidekfbgjghcjaaGreatWExtractRight
import Derived.Test.YtidekfbgjghcjaaGreatExr9
import Derived.Test.YtidekfbgjghcjaaGreatG3
import Derived.OpenShut
import Derived.ShutString
import Derived.ChangeOld
import Derived.JoinedCond
namespace Go.Proofs.YtidekfbgjghcjaaGreat
set_option linter.unusedSimpArgs false
set_option linter.unusedVariables false
open Go Go.RowKit
open Go.ChangeShapes Go.WideShapes Go.ChangeAt
open Go.ChangeMaps (open_string shut_string)

theorem extractRight_own : ownKnob Tryz.prog.godebug = none := by kernel_rfl
set_option maxRecDepth 100000 in
theorem extractRight_lifted (os : Os) (started : os.Started) (H : Type) (enc : TypeId × Value → H) (F0 : Stop.Interp) :
    ReturnsInHanded {} Tryz.checked os 4 .any ((Rows.OpenSpec.upto Rows.extractRightSpec).pre6 enc Tryz.prog Tryz.f4 Rows.extractRightUptoRow.domain false) (((Rows.OpenSpec.upto Rows.extractRightSpec).at F0).post enc Tryz.prog Tryz.f4 false true false false) := by
  refine returnsInHanded_of_cond (C := Tryz.checked) (s := (Rows.OpenSpec.upto Rows.extractRightSpec)) (k := Rows.uptoSmall) rfl extractRight_own started (by kernel_rfl) Tryz.func4
    (OpenSpec.witness (enc := enc) (C := Tryz.checked) (s := (Rows.OpenSpec.upto Rows.extractRightSpec)) (k := Rows.uptoSmall) rfl false ⟨#[], #[.string ByteArray.empty, .int .i64 0, .agg #[.slice none 0 0, .slice none 0 0, .slice none 0 0], .int .i64 0, .agg #[.int .i64 0, .string ByteArray.empty, .string ByteArray.empty, .int .i64 0, .string ByteArray.empty, .string ByteArray.empty]], []⟩ 8 (by kernel_rfl) (by kernel_rfl) (by kernel_rfl)
      (x := ([.lit (.string []), .lit (.int .i64 0), .agg [.nil, .nil, .nil], .lit (.int .i64 0), .agg [.lit (.int .i64 0), .lit (.string []), .lit (.string []), .lit (.int .i64 0), .lit (.string []), .lit (.string [])]], [], [])) (by kernel_rfl) (by kernel_rfl) (by simp [Rows.uptoSmall, Rows.uptoBulkAll, Rows.uptoBulk]) (by kernel_rfl)) ?_
  intro W base args ds gs before hval0 hW hcnd hkk _
  have hval : ∀ (j : Nat) t v, Tryz.f4.params[j]? = some t → args[j]? = some v → Value.okWide Tryz.prog W .any base t v := hval0
  have hW' := hW
  obtain ⟨p, q, hA0, hV, rfl, hfz, hnd⟩ := hW
  have hA : DataW.TrodAll enc Tryz.prog W 0 (fun _ => true) true Tryz.f4.params.toList args.toList ds p := hA0
  rw [Tryz.params4] at hA hval
  obtain ⟨v0, vs0, d0, ds0, p0, q0, hargs, rfl, rfl, h0, r0⟩ := trodAll_cons hA
  obtain ⟨v1, vs1, d1, ds1, p1, q1, rfl, rfl, rfl, h1, r1⟩ := trodAll_cons r0
  obtain ⟨v2, vs2, d2, ds2, p2, q2, rfl, rfl, rfl, h2, r2⟩ := trodAll_cons r1
  obtain ⟨v3, vs3, d3, ds3, p3, q3, rfl, rfl, rfl, h3, r3⟩ := trodAll_cons r2
  obtain ⟨v4, vs4, d4, ds4, p4, q4, rfl, rfl, rfl, h4, r4⟩ := trodAll_cons r3
  obtain ⟨rfl, rfl, rfl⟩ := trodAll_nil r4
  obtain rfl : args = #[v0, v1, v2, v3, v4] := by cases args; simp_all
  obtain ⟨rfl, rfl⟩ := trodVars_none hV
  obtain ⟨a0, rfl, rfl, rfl, w0⟩ := open_string Tryz.underlying9 (hval 0 9 v0 rfl rfl) h0
  obtain ⟨a1, rfl, rfl, rfl, w1⟩ := open_int Tryz.underlying3 (hval 1 3 v1 rfl rfl) h1
  have k2 := h2
  have lt2 := trod_lt' h2
  obtain ⟨a2, rfl, w2⟩ := hon_in (okWide_struct Tryz.underlying56 (hval 2 56 v2 rfl rfl)) h2
  obtain ⟨a3, rfl, rfl, rfl, w3⟩ := open_int Tryz.underlying3 (hval 3 3 v3 rfl rfl) h3
  have k4 := h4
  have lt4 := trod_lt' h4
  obtain ⟨a4, rfl, w4⟩ := fnd_in (okWide_struct Tryz.underlying58 (hval 4 58 v4 rfl rfl)) h4
  clear hA0 hval0
  have hbk : Rows.uptoBulkAll [_, _, d2, _, d4] ≤ 1048576 := of_decide_eq_true hkk
  have hb2 := Nat.le_trans (bulk_at (show d2 ∈ [_, _, d2, _, d4] by simp)) hbk
  have hb4 := Nat.le_trans (bulk_at (show d4 ∈ [_, _, d2, _, d4] by simp)) hbk
  have hz2 := Nat.le_trans (hon_bulk w2.heads h2) hb2
  have hz4 := fnd_bulk h4
  refine (extractRight_law a0 a1 a2 a3 a4 W (fits_of_wf w1) w2 w4 hz2 ⟨Nat.le_trans hz4.1 hb4, Nat.le_trans hz4.2.1 hb4, Nat.le_trans hz4.2.2.1 hb4, Nat.le_trans hz4.2.2.2 hb4⟩).mono fun e W' ⟨he, bel⟩ => ?_
  subst he
  exact ⟨_, rfl, _, _, _, [], _, [], hW', trodAll_mk1 (shut_bool Tryz.underlying4 _), (trodAll_cons_mk (shut_string Tryz.underlying9 w0) (trodAll_cons_mk (shut_int Tryz.underlying3 w1) (trodAll_cons_mk (Below.trod fact_laidOut (by kernel_rfl) (of_decide_eq_true (by kernel_rfl)) k2 bel lt2) (trodAll_cons_mk (shut_int Tryz.underlying3 w3) (trodAll_cons_mk (Below.trod fact_laidOut (by kernel_rfl) (of_decide_eq_true (by kernel_rfl)) k4 bel lt4) trodAll_mk0))))), rfl, bel.frame _, fun h => by cases h⟩

theorem extractRight_f1 : (Tryz.pinned).checked.prog.funcNamed Rows.extractRightUptoRow.func = some 4 := by kernel_rfl
theorem extractRight_f2 : joinedFacts Tryz.prog 4 Tryz.f4 (Rows.OpenSpec.upto Rows.extractRightSpec).bare Rows.extractRightUptoRow = true := by
  unfold joinedFacts
  rw [fact_mayEnter, fact_lifted, fact_make]
  kernel_rfl
theorem extractRight_f3 : Func.isInstance (Tryz.pinned).checked.prog Tryz.f4 Rows.extractRightUptoRow.origin Rows.extractRightUptoRow.targs := of_decide_eq_true (by kernel_rfl)
theorem extractRight_f4 : Func.isWrapper (Tryz.pinned).checked.prog Tryz.f4 Rows.extractRightUptoRow.wrapper Rows.extractRightUptoRow.mainSum := by
  unfold Func.isWrapper; rw [if_neg (of_decide_eq_false (by kernel_rfl))]; exact ⟨rfl, rfl⟩
theorem extractRight_over : Rows.extractRightUptoRow.holds Tryz.pinned (Rows.OpenSpec.upto Rows.extractRightSpec) :=
  OpenClaim.holds_of_cond 4 Tryz.f4 rfl rfl rfl rfl rfl rfl rfl ⟨rfl, rfl, rfl, rfl, rfl⟩ rfl rfl rfl rfl rfl extractRight_f1 Tryz.func4 extractRight_f2 extractRight_f3 extractRight_f4
    (fun os started H enc _ F0 => extractRight_lifted os started H enc F0)

theorem extractRight_proved : Rows.ExtractRightUptoSaid := extractRight_over
end Go.Proofs.YtidekfbgjghcjaaGreat

