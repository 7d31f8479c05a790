/- HmacClash: for any two keys and messages: where they have one tag, and key's block or message are unlike, two unlike texts are told that have one sum; else none. No condition. -/
import Derived.Test.YtacoibiafpdoaaaFacts
import Derived.Test.YtacoibiafpdoaaaLaw03
import Derived.OpenShut
import Derived.ShutString
import Derived.ChangeOld
namespace Go.Proofs.Ytacoibiafpdoaaa
open Go Go.RowKit
open Go.ChangeShapes Go.WideShapes Go.ChangeAt
open Go.ChangeMaps (open_string shut_string)
set_option linter.unusedVariables false

theorem mac_same {k m l n : List UInt8} (h : hkey k = hkey l) (e : m = n) : mac k m = mac l n := by
  unfold mac houter hinner heldL
  rw [h, e]

set_option maxHeartbeats 4000000 in
theorem hmacClash_walk (k m l n : ByteArray) (w : World) :
    Calls Try.prog 7 #[.string k, .string m, .string l, .string n] w fun e w' => e = .returned (.bool true) ∧ Below w.heap.size w w' := by
  by_cases c1 : 500 < k.size
  · have d1 : (500 : Int) < k.size := by omega
    go_enter Try.func7, Try.ntmps7
    go_wp2_with fail
    refine (alive03 _).mono ?_
    rintro e w1 ⟨rfl, hb1⟩
    go_wp2_with fail
    go_ret
    exact ⟨rfl, hb1⟩
  · have d1 : (k.size : Int) ≤ 500 := by omega
    by_cases c2 : 500 < m.size
    · have d2 : (500 : Int) < m.size := by omega
      go_enter Try.func7, Try.ntmps7
      go_wp2_with fail
      refine (alive03 _).mono ?_
      rintro e w1 ⟨rfl, hb1⟩
      go_wp2_with fail
      go_ret
      exact ⟨rfl, hb1⟩
    · have d2 : (m.size : Int) ≤ 500 := by omega
      by_cases c3 : 500 < l.size
      · have d3 : (500 : Int) < l.size := by omega
        go_enter Try.func7, Try.ntmps7
        go_wp2_with fail
        refine (alive03 _).mono ?_
        rintro e w1 ⟨rfl, hb1⟩
        go_wp2_with fail
        go_ret
        exact ⟨rfl, hb1⟩
      · have d3 : (l.size : Int) ≤ 500 := by omega
        by_cases c4 : 500 < n.size
        · have d4 : (500 : Int) < n.size := by omega
          go_enter Try.func7, Try.ntmps7
          go_wp2_with fail
          refine (alive03 _).mono ?_
          rintro e w1 ⟨rfl, hb1⟩
          go_wp2_with fail
          go_ret
          exact ⟨rfl, hb1⟩
        · have d4 : (n.size : Int) ≤ 500 := by omega
          by_cases hk : hkey k.data.toList = hkey l.data.toList
          · have HK := Lib.hid hk; clear hk
            by_cases hm : m.data.toList = n.data.toList
            · have HM := Lib.hid hm; clear hm
              have hmn := (Txt.self m).same (Txt.self n) HM.out
              go_enter Try.func7, Try.ntmps7
              go_wp2_with fail
              refine (clash_one k m l n _ (by omega) (by omega) (by omega) (by omega) (mac_same HK.out HM.out) HK.out HM.out).mono ?_
              rintro e w1 ⟨rfl, hb1⟩
              go_wp2_with fail
              refine (hkey_walk k _ (by omega)).mono ?_
              rintro e w2 ⟨p, rfl, tp, hb2⟩
              go_wp2_with fail
              refine (hkey_walk l _ (by omega)).mono ?_
              rintro e w3 ⟨q, rfl, tq, hb3⟩
              have hy := tp.same tq HK.out
              go_wp2_with fail
              refine (alive03 _).mono ?_
              rintro e w4 ⟨rfl, hb4⟩
              go_wp2_with fail
              go_ret
              have q1 := hb1.size
              have q2 := hb2.size
              have q3 := hb3.size
              exact ⟨rfl, (((hb1).trans (hb2.mono (by omega))).trans (hb3.mono (by omega))).trans (hb4.mono (by omega))⟩
            · have hmn := (Txt.self m).other (Txt.self n) hm
              have HA : Hid (hkey k.data.toList ≠ hkey l.data.toList ∨ m.data.toList ≠ n.data.toList) := .inr hm
              clear hm
              by_cases ht : mac k.data.toList m.data.toList = mac l.data.toList n.data.toList
              · have HT := Lib.hid ht; clear ht
                go_enter Try.func7, Try.ntmps7
                go_wp2_with fail
                refine (clash_told k m l n _ (by omega) (by omega) (by omega) (by omega) HT.out HA.out).mono ?_
                rintro e w1 ⟨⟨a, b, x, y, rfl, ta, tb, hne, hsh, za, zb⟩, hb1⟩
                have hab := ta.other tb hne
                go_wp2_with fail
                refine (hkey_walk k _ (by omega)).mono ?_
                rintro e w2 ⟨p, rfl, tp, hb2⟩
                go_wp2_with fail
                refine (hkey_walk l _ (by omega)).mono ?_
                rintro e w3 ⟨q, rfl, tq, hb3⟩
                have hy := tp.same tq HK.out
                go_wp2_with fail
                refine (mac_walk k m _ (by omega) (by omega)).mono ?_
                rintro e w4 ⟨t, rfl, tt, hb4⟩
                go_wp2_with fail
                refine (mac_walk l n _ (by omega) (by omega)).mono ?_
                rintro e w5 ⟨u, rfl, tu, hb5⟩
                have hx := tt.same tu HT.out
                go_wp2_with fail
                refine (sum_one a _ _ (by omega)).mono ?_
                rintro e w6 ⟨s1, rfl, ts1, hb6⟩
                go_wp2_with fail
                refine (sum_one b _ _ (by omega)).mono ?_
                rintro e w7 ⟨s2, rfl, ts2, hb7⟩
                have hs12 := ts1.same ts2 (by rw [ta, tb]; exact hsh)
                clear hsh
                go_wp2_with fail
                refine (alive03 _).mono ?_
                rintro e w8 ⟨rfl, hb8⟩
                go_wp2_with fail
                go_ret
                have q1 := hb1.size
                have q2 := hb2.size
                have q3 := hb3.size
                have q4 := hb4.size
                have q5 := hb5.size
                have q6 := hb6.size
                have q7 := hb7.size
                exact ⟨rfl, (((((((hb1).trans (hb2.mono (by omega))).trans (hb3.mono (by omega))).trans (hb4.mono (by omega))).trans (hb5.mono (by omega))).trans (hb6.mono (by omega))).trans (hb7.mono (by omega))).trans (hb8.mono (by omega))⟩
              · have HT := Lib.hid ht; clear ht
                go_enter Try.func7, Try.ntmps7
                go_wp2_with fail
                refine (clash_unlike k m l n _ (by omega) (by omega) (by omega) (by omega) HT.out).mono ?_
                rintro e w1 ⟨rfl, hb1⟩
                go_wp2_with fail
                refine (hkey_walk k _ (by omega)).mono ?_
                rintro e w2 ⟨p, rfl, tp, hb2⟩
                go_wp2_with fail
                refine (hkey_walk l _ (by omega)).mono ?_
                rintro e w3 ⟨q, rfl, tq, hb3⟩
                have hy := tp.same tq HK.out
                go_wp2_with fail
                refine (mac_walk k m _ (by omega) (by omega)).mono ?_
                rintro e w4 ⟨t, rfl, tt, hb4⟩
                go_wp2_with fail
                refine (mac_walk l n _ (by omega) (by omega)).mono ?_
                rintro e w5 ⟨u, rfl, tu, hb5⟩
                have hx := tt.other tu HT.out
                go_wp2_with fail
                refine (alive03 _).mono ?_
                rintro e w6 ⟨rfl, hb6⟩
                go_wp2_with fail
                go_ret
                have q1 := hb1.size
                have q2 := hb2.size
                have q3 := hb3.size
                have q4 := hb4.size
                have q5 := hb5.size
                exact ⟨rfl, (((((hb1).trans (hb2.mono (by omega))).trans (hb3.mono (by omega))).trans (hb4.mono (by omega))).trans (hb5.mono (by omega))).trans (hb6.mono (by omega))⟩
          · have HA : Hid (hkey k.data.toList ≠ hkey l.data.toList ∨ m.data.toList ≠ n.data.toList) := .inl hk
            have HK := Lib.hid hk; clear hk
            by_cases ht : mac k.data.toList m.data.toList = mac l.data.toList n.data.toList
            · have HT := Lib.hid ht; clear ht
              go_enter Try.func7, Try.ntmps7
              go_wp2_with fail
              refine (clash_told k m l n _ (by omega) (by omega) (by omega) (by omega) HT.out HA.out).mono ?_
              rintro e w1 ⟨⟨a, b, x, y, rfl, ta, tb, hne, hsh, za, zb⟩, hb1⟩
              have hab := ta.other tb hne
              go_wp2_with fail
              refine (hkey_walk k _ (by omega)).mono ?_
              rintro e w2 ⟨p, rfl, tp, hb2⟩
              go_wp2_with fail
              refine (hkey_walk l _ (by omega)).mono ?_
              rintro e w3 ⟨q, rfl, tq, hb3⟩
              have hy := tp.other tq HK.out
              go_wp2_with fail
              refine (mac_walk k m _ (by omega) (by omega)).mono ?_
              rintro e w4 ⟨t, rfl, tt, hb4⟩
              go_wp2_with fail
              refine (mac_walk l n _ (by omega) (by omega)).mono ?_
              rintro e w5 ⟨u, rfl, tu, hb5⟩
              have hx := tt.same tu HT.out
              go_wp2_with fail
              refine (sum_one a _ _ (by omega)).mono ?_
              rintro e w6 ⟨s1, rfl, ts1, hb6⟩
              go_wp2_with fail
              refine (sum_one b _ _ (by omega)).mono ?_
              rintro e w7 ⟨s2, rfl, ts2, hb7⟩
              have hs12 := ts1.same ts2 (by rw [ta, tb]; exact hsh)
              clear hsh
              go_wp2_with fail
              refine (alive03 _).mono ?_
              rintro e w8 ⟨rfl, hb8⟩
              go_wp2_with fail
              go_ret
              have q1 := hb1.size
              have q2 := hb2.size
              have q3 := hb3.size
              have q4 := hb4.size
              have q5 := hb5.size
              have q6 := hb6.size
              have q7 := hb7.size
              exact ⟨rfl, (((((((hb1).trans (hb2.mono (by omega))).trans (hb3.mono (by omega))).trans (hb4.mono (by omega))).trans (hb5.mono (by omega))).trans (hb6.mono (by omega))).trans (hb7.mono (by omega))).trans (hb8.mono (by omega))⟩
            · have HT := Lib.hid ht; clear ht
              go_enter Try.func7, Try.ntmps7
              go_wp2_with fail
              refine (clash_unlike k m l n _ (by omega) (by omega) (by omega) (by omega) HT.out).mono ?_
              rintro e w1 ⟨rfl, hb1⟩
              go_wp2_with fail
              refine (hkey_walk k _ (by omega)).mono ?_
              rintro e w2 ⟨p, rfl, tp, hb2⟩
              go_wp2_with fail
              refine (hkey_walk l _ (by omega)).mono ?_
              rintro e w3 ⟨q, rfl, tq, hb3⟩
              have hy := tp.other tq HK.out
              go_wp2_with fail
              refine (mac_walk k m _ (by omega) (by omega)).mono ?_
              rintro e w4 ⟨t, rfl, tt, hb4⟩
              go_wp2_with fail
              refine (mac_walk l n _ (by omega) (by omega)).mono ?_
              rintro e w5 ⟨u, rfl, tu, hb5⟩
              have hx := tt.other tu HT.out
              go_wp2_with fail
              refine (alive03 _).mono ?_
              rintro e w6 ⟨rfl, hb6⟩
              go_wp2_with fail
              go_ret
              have q1 := hb1.size
              have q2 := hb2.size
              have q3 := hb3.size
              have q4 := hb4.size
              have q5 := hb5.size
              exact ⟨rfl, (((((hb1).trans (hb2.mono (by omega))).trans (hb3.mono (by omega))).trans (hb4.mono (by omega))).trans (hb5.mono (by omega))).trans (hb6.mono (by omega))⟩

theorem hmacClash_own : ownKnob Try.prog.godebug = none := by kernel_rfl
set_option maxRecDepth 100000 in
theorem hmacClash_lifted (os : Os) (started : os.Started) (H : Type) (enc : TypeId × Value → H) :
    ReturnsInHanded {} Try.checked os 7 .any (Rows.hmacClashSpec.pre6 enc Try.prog Try.f7 Rows.hmacClashRow.domain false) (Rows.hmacClashSpec.post enc Try.prog Try.f7 false true false false) := by
  refine returnsInHanded_of_change (C := Try.checked) hmacClash_own started (by kernel_rfl) Try.func7
    (ChangeSpec.witness6 (enc := enc) (C := Try.checked) false ⟨#[], #[.string ByteArray.empty, .string ByteArray.empty, .string ByteArray.empty, .string ByteArray.empty], []⟩ 8 (by kernel_rfl) (by kernel_rfl) (by kernel_rfl) (by kernel_rfl)) ?_
  intro W base args ds gs before hval0 hW hcnd _
  have hval : ∀ (j : Nat) t v, Try.f7.params[j]? = some t → args[j]? = some v → Value.okWide Try.prog W .any base t v := hval0
  have hW' := hW
  obtain ⟨p, q, hA0, hV, rfl, hfz, hnd⟩ := hW
  have hA : DataW.TrodAll enc Try.prog W 0 (fun _ => true) true Try.f7.params.toList args.toList ds p := hA0
  rw [Try.params7] at hA hval
  obtain ⟨v0, vs0, d0, ds0, p0, q0, hargs, rfl, rfl, h0, r0⟩ := trodAll_cons hA
  obtain ⟨v1, vs1, d1, ds1, p1, q1, rfl, rfl, rfl, h1, r1⟩ := trodAll_cons r0
  obtain ⟨v2, vs2, d2, ds2, p2, q2, rfl, rfl, rfl, h2, r2⟩ := trodAll_cons r1
  obtain ⟨v3, vs3, d3, ds3, p3, q3, rfl, rfl, rfl, h3, r3⟩ := trodAll_cons r2
  obtain ⟨rfl, rfl, rfl⟩ := trodAll_nil r3
  obtain rfl : args = #[v0, v1, v2, v3] := by cases args; simp_all
  obtain ⟨rfl, rfl⟩ := trodVars_none hV
  obtain ⟨a0, rfl, rfl, rfl, w0⟩ := open_string Try.underlying9 (hval 0 9 v0 rfl rfl) h0
  obtain ⟨a1, rfl, rfl, rfl, w1⟩ := open_string Try.underlying9 (hval 1 9 v1 rfl rfl) h1
  obtain ⟨a2, rfl, rfl, rfl, w2⟩ := open_string Try.underlying9 (hval 2 9 v2 rfl rfl) h2
  obtain ⟨a3, rfl, rfl, rfl, w3⟩ := open_string Try.underlying9 (hval 3 9 v3 rfl rfl) h3
  clear hA0 hval0
  refine (hmacClash_walk a0 a1 a2 a3 W).mono fun e W' ⟨he, bel⟩ => ?_
  subst he
  exact ⟨_, rfl, _, _, _, [], _, [], hW', trodAll_mk1 (shut_bool Try.underlying4 _), (trodAll_cons_mk (shut_string Try.underlying9 w0) (trodAll_cons_mk (shut_string Try.underlying9 w1) (trodAll_cons_mk (shut_string Try.underlying9 w2) (trodAll_cons_mk (shut_string Try.underlying9 w3) trodAll_mk0)))), rfl, bel.frame _, fun h => by cases h⟩

theorem hmacClash_f1 : (Try.pinned).checked.prog.funcNamed Rows.hmacClashRow.func = some 7 := by kernel_rfl
theorem hmacClash_f2 : joinedFacts Try.prog 7 Try.f7 Rows.hmacClashSpec Rows.hmacClashRow = true := by
  unfold joinedFacts
  rw [fact_mayEnter, fact_lifted, fact_make]
  kernel_rfl
theorem hmacClash_f3 : Func.isInstance (Try.pinned).checked.prog Try.f7 Rows.hmacClashRow.origin Rows.hmacClashRow.targs := of_decide_eq_true (by kernel_rfl)
theorem hmacClash_f4 : Func.isWrapper (Try.pinned).checked.prog Try.f7 Rows.hmacClashRow.wrapper Rows.hmacClashRow.mainSum := by
  unfold Func.isWrapper; rw [if_neg (of_decide_eq_false (by kernel_rfl))]; exact ⟨rfl, rfl⟩
theorem hmacClash_over : Rows.hmacClashRow.holds Try.pinned (OpenSpec.ofChange Rows.hmacClashSpec) :=
  OpenClaim.holds_of_wide 7 Try.f7 rfl rfl rfl rfl rfl rfl rfl ⟨rfl, rfl, rfl, rfl, rfl⟩ rfl rfl rfl rfl rfl hmacClash_f1 Try.func7 hmacClash_f2 hmacClash_f3 hmacClash_f4
    (fun os started H enc _ => hmacClash_lifted os started H enc)

theorem hmacClash_proved : Rows.HmacClashSaid := hmacClash_over
end Go.Proofs.Ytacoibiafpdoaaa
