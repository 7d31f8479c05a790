/- DeriveBegins: for every master, label and two numbers the law returns true: a longer row of bytes begins with each shorter one, and they are as many as asked. No condition. -/
import Derived.Test.YtacoibiafpdoaaaFacts
import Derived.Test.YtacoibiafpdoaaaLaw04
import Derived.OpenShut
import Derived.ShutString
import Derived.ChangeOld
namespace Go.Proofs.Ytacoibiafpdoaaa
open Go Go.RowKit
open Go.ChangeShapes Go.WideShapes Go.ChangeAt
open Go.ChangeMaps (open_string shut_string)
set_option linter.unusedVariables false

set_option maxHeartbeats 4000000 in
theorem deriveBegins_walk (master label : ByteArray) (n more : Int) (w : World) :
    Calls Try.prog 15 #[.string master, .string label, .int .i64 n, .int .i64 more] w fun e w' => e = .returned (.bool true) ∧ Below w.heap.size w w' := by
  by_cases c1 : 200 < master.size
  · have d1 : (200 : Int) < master.size := by omega
    go_enter Try.func15, Try.ntmps15
    go_wp2_with fail
    refine (alive04 _).mono ?_
    rintro e w1 ⟨rfl, hb1⟩
    go_wp2_with fail
    go_ret
    exact ⟨rfl, hb1⟩
  · have d1 : (master.size : Int) ≤ 200 := by omega
    by_cases c2 : n < 0
    · skip
      go_enter Try.func15, Try.ntmps15
      go_wp2_with fail
      refine (alive04 _).mono ?_
      rintro e w1 ⟨rfl, hb1⟩
      go_wp2_with fail
      go_ret
      exact ⟨rfl, hb1⟩
    · have d2 : 0 ≤ n := by omega
      by_cases c3 : more < n
      · skip
        go_enter Try.func15, Try.ntmps15
        go_wp2_with fail
        refine (alive04 _).mono ?_
        rintro e w1 ⟨rfl, hb1⟩
        go_wp2_with fail
        go_ret
        exact ⟨rfl, hb1⟩
      · have d3 : n ≤ more := by omega
        by_cases c4 : 8160 < more
        · skip
          go_enter Try.func15, Try.ntmps15
          go_wp2_with fail
          refine (alive04 _).mono ?_
          rintro e w1 ⟨rfl, hb1⟩
          go_wp2_with fail
          go_ret
          exact ⟨rfl, hb1⟩
        · have d4 : more ≤ 8160 := by omega
          by_cases ho : saidOk label.data.toList [] = true
          · have HO := Lib.hid ho; clear ho
            go_enter Try.func15, Try.ntmps15
            go_wp2_with fail
            refine (long_walk master label n _ (by omega)).mono ?_
            rintro e w1 ⟨⟨_, _, _, a, rfl, ta⟩ | ⟨hbad, rfl⟩, hb1⟩
            rotate_left
            · exfalso; rcases hbad with h | h | h
              · omega
              · omega
              · rw [HO.out] at h; cases h
            go_wp2_with fail
            refine (long_walk master label more _ (by omega)).mono ?_
            rintro e w2 ⟨⟨_, _, _, b, rfl, tb⟩ | ⟨hbad, rfl⟩, hb2⟩
            rotate_left
            · exfalso; rcases hbad with h | h | h
              · omega
              · omega
              · rw [HO.out] at h; cases h
            have ea : (a.size : Int) = n := by rw [ta.size, longL_length]; omega
            have eb : (b.size : Int) = more := by rw [tb.size, longL_length]; omega
            have hnb : n ≤ (b.size : Int) := by omega
            have hx : ((b.extract 0 n.toNat).toList == a.toList) = true := (tb.extract 0 n.toNat).same ta (by rw [List.drop_zero, longL_take _ _ _ _ (by omega)])
            have hn1 : ((a.size : Int) == n) = true := by rw [ea]; simp
            have hn2 : ((b.size : Int) == more) = true := by rw [eb]; simp
            clear ea eb
            go_wp2_with fail
            refine (alive04 _).mono ?_
            rintro e w3 ⟨rfl, hb3⟩
            go_wp2_with fail
            go_ret
            have q1 := hb1.size
            have q2 := hb2.size
            exact ⟨rfl, (hb1.trans (hb2.mono (by omega))).trans (hb3.mono (by omega))⟩
          · have HO : Hid (saidOk label.data.toList [] = false) := Bool.eq_false_iff.2 ho
            clear ho
            go_enter Try.func15, Try.ntmps15
            go_wp2_with fail
            refine (long_walk master label n _ (by omega)).mono ?_
            rintro e w1 ⟨⟨_, _, hgood, _, rfl, _⟩ | ⟨_, rfl⟩, hb1⟩
            · exact absurd (hgood.symm.trans HO.out) (by decide)
            go_wp2_with fail
            refine (long_walk master label more _ (by omega)).mono ?_
            rintro e w2 ⟨⟨_, _, hgood, _, rfl, _⟩ | ⟨_, rfl⟩, hb2⟩
            · exact absurd (hgood.symm.trans HO.out) (by decide)
            go_wp2_with fail
            refine (alive04 _).mono ?_
            rintro e w3 ⟨rfl, hb3⟩
            go_wp2_with fail
            go_ret
            have q1 := hb1.size
            have q2 := hb2.size
            exact ⟨rfl, (hb1.trans (hb2.mono (by omega))).trans (hb3.mono (by omega))⟩

theorem deriveBegins_own : ownKnob Try.prog.godebug = none := by kernel_rfl
set_option maxRecDepth 100000 in
theorem deriveBegins_lifted (os : Os) (started : os.Started) (H : Type) (enc : TypeId × Value → H) :
    ReturnsInHanded {} Try.checked os 15 .any (Rows.deriveBeginsSpec.pre6 enc Try.prog Try.f15 Rows.deriveBeginsRow.domain false) (Rows.deriveBeginsSpec.post enc Try.prog Try.f15 false true false false) := by
  refine returnsInHanded_of_change (C := Try.checked) deriveBegins_own started (by kernel_rfl) Try.func15
    (ChangeSpec.witness6 (enc := enc) (C := Try.checked) false ⟨#[], #[.string ByteArray.empty, .string ByteArray.empty, .int .i64 0, .int .i64 0], []⟩ 8 (by kernel_rfl) (by kernel_rfl) (by kernel_rfl) (by kernel_rfl)) ?_
  intro W base args ds gs before hval0 hW hcnd _
  have hval : ∀ (j : Nat) t v, Try.f15.params[j]? = some t → args[j]? = some v → Value.okWide Try.prog W .any base t v := hval0
  have hW' := hW
  obtain ⟨p, q, hA0, hV, rfl, hfz, hnd⟩ := hW
  have hA : DataW.TrodAll enc Try.prog W 0 (fun _ => true) true Try.f15.params.toList args.toList ds p := hA0
  rw [Try.params15] at hA hval
  obtain ⟨v0, vs0, d0, ds0, p0, q0, hargs, rfl, rfl, h0, r0⟩ := trodAll_cons hA
  obtain ⟨v1, vs1, d1, ds1, p1, q1, rfl, rfl, rfl, h1, r1⟩ := trodAll_cons r0
  obtain ⟨v2, vs2, d2, ds2, p2, q2, rfl, rfl, rfl, h2, r2⟩ := trodAll_cons r1
  obtain ⟨v3, vs3, d3, ds3, p3, q3, rfl, rfl, rfl, h3, r3⟩ := trodAll_cons r2
  obtain ⟨rfl, rfl, rfl⟩ := trodAll_nil r3
  obtain rfl : args = #[v0, v1, v2, v3] := by cases args; simp_all
  obtain ⟨rfl, rfl⟩ := trodVars_none hV
  obtain ⟨a0, rfl, rfl, rfl, w0⟩ := open_string Try.underlying9 (hval 0 9 v0 rfl rfl) h0
  obtain ⟨a1, rfl, rfl, rfl, w1⟩ := open_string Try.underlying9 (hval 1 9 v1 rfl rfl) h1
  obtain ⟨a2, rfl, rfl, rfl, w2⟩ := open_int Try.underlying3 (hval 2 3 v2 rfl rfl) h2
  obtain ⟨a3, rfl, rfl, rfl, w3⟩ := open_int Try.underlying3 (hval 3 3 v3 rfl rfl) h3
  clear hA0 hval0
  refine (deriveBegins_walk a0 a1 a2 a3 W).mono fun e W' ⟨he, bel⟩ => ?_
  subst he
  exact ⟨_, rfl, _, _, _, [], _, [], hW', trodAll_mk1 (shut_bool Try.underlying4 _), (trodAll_cons_mk (shut_string Try.underlying9 w0) (trodAll_cons_mk (shut_string Try.underlying9 w1) (trodAll_cons_mk (shut_int Try.underlying3 w2) (trodAll_cons_mk (shut_int Try.underlying3 w3) trodAll_mk0)))), rfl, bel.frame _, fun h => by cases h⟩

theorem deriveBegins_f1 : (Try.pinned).checked.prog.funcNamed Rows.deriveBeginsRow.func = some 15 := by kernel_rfl
theorem deriveBegins_f2 : joinedFacts Try.prog 15 Try.f15 Rows.deriveBeginsSpec Rows.deriveBeginsRow = true := by
  unfold joinedFacts
  rw [fact_mayEnter, fact_lifted, fact_make]
  kernel_rfl
theorem deriveBegins_f3 : Func.isInstance (Try.pinned).checked.prog Try.f15 Rows.deriveBeginsRow.origin Rows.deriveBeginsRow.targs := of_decide_eq_true (by kernel_rfl)
theorem deriveBegins_f4 : Func.isWrapper (Try.pinned).checked.prog Try.f15 Rows.deriveBeginsRow.wrapper Rows.deriveBeginsRow.mainSum := by
  unfold Func.isWrapper; rw [if_neg (of_decide_eq_false (by kernel_rfl))]; exact ⟨rfl, rfl⟩
theorem deriveBegins_over : Rows.deriveBeginsRow.holds Try.pinned (OpenSpec.ofChange Rows.deriveBeginsSpec) :=
  OpenClaim.holds_of_wide 15 Try.f15 rfl rfl rfl rfl rfl rfl rfl ⟨rfl, rfl, rfl, rfl, rfl⟩ rfl rfl rfl rfl rfl deriveBegins_f1 Try.func15 deriveBegins_f2 deriveBegins_f3 deriveBegins_f4
    (fun os started H enc _ => deriveBegins_lifted os started H enc)

theorem deriveBegins_proved : Rows.DeriveBeginsSaid := deriveBegins_over
end Go.Proofs.Ytacoibiafpdoaaa
