/- HmacKeys: for every key, message and number of noughts the law returns true: a key longer than 64 bytes has the tags of its sum; a shorter one those that it has with noughts behind it. No condition. -/
import Derived.Test.YtacoibiafpdoaaaFacts
import Derived.Test.YtacoibiafpdoaaaLaw03
import Derived.OpenShut
import Derived.ShutString
import Derived.ChangeOld
namespace Go.Proofs.Ytacoibiafpdoaaa
open Go Go.RowKit
open Go.ChangeShapes Go.WideShapes Go.ChangeAt
open Go.ChangeMaps (open_string shut_string)
set_option linter.unusedVariables false

theorem mac_long (k m : List UInt8) (h : 64 < k.length) : mac (sha k) m = mac k m := by
  have : hkey (sha k) = hkey k := by
    unfold hkey
    rw [if_neg (by rw [sha_length]; omega), if_pos h, sha_length]
  unfold mac houter hinner heldL
  rw [this]
theorem mac_zeros (k m : List UInt8) (n : Nat) (h : k.length + n ≤ 64) : mac (k ++ List.replicate n 0) m = mac k m := by
  have : hkey (k ++ List.replicate n 0) = hkey k := by
    unfold hkey
    rw [if_neg (by simp; omega), if_neg (by omega), List.append_assoc, List.replicate_append_replicate]
    congr 2
    simp; omega
  unfold mac houter hinner heldL
  rw [this]

set_option maxHeartbeats 1000000 in
theorem hmacKeys_walk (k m : ByteArray) (n : Int) (w : World) :
    Calls Try.prog 5 #[.string k, .string m, .int .i64 n] w fun e w' => e = .returned (.bool true) ∧ Below w.heap.size w w' := by
  by_cases c1 : 500 < k.size
  · have d1 : (500 : Int) < k.size := by omega
    go_enter Try.func5, Try.ntmps5
    go_wp2_with fail
    refine (alive03 _).mono ?_
    rintro e w1 ⟨rfl, hb⟩
    go_wp2_with fail
    go_ret
    exact ⟨rfl, hb⟩
  · have d1 : (k.size : Int) ≤ 500 := by omega
    by_cases c2 : 500 < m.size
    · have d2 : (500 : Int) < m.size := by omega
      go_enter Try.func5, Try.ntmps5
      go_wp2_with fail
      refine (alive03 _).mono ?_
      rintro e w1 ⟨rfl, hb⟩
      go_wp2_with fail
      go_ret
      exact ⟨rfl, hb⟩
    · have d2 : (m.size : Int) ≤ 500 := by omega
      by_cases c3 : n < 0
      · go_enter Try.func5, Try.ntmps5
        go_wp2_with fail
        refine (alive03 _).mono ?_
        rintro e w1 ⟨rfl, hb⟩
        go_wp2_with fail
        go_ret
        exact ⟨rfl, hb⟩
      · have d3 : 0 ≤ n := by omega
        by_cases c4 : 64 < n
        · go_enter Try.func5, Try.ntmps5
          go_wp2_with fail
          refine (alive03 _).mono ?_
          rintro e w1 ⟨rfl, hb⟩
          go_wp2_with fail
          go_ret
          exact ⟨rfl, hb⟩
        · have d4 : n ≤ 64 := by omega
          by_cases c5 : 64 < k.size
          · have d5 : (64 : Int) < k.size := by omega
            go_enter Try.func5, Try.ntmps5
            go_wp2_with fail
            refine (mac_walk k m _ (by omega) (by omega)).mono ?_
            rintro e w1 ⟨t, rfl, tt, hb1⟩
            go_wp2_with fail
            refine (sum_one k _ _ (by omega)).mono ?_
            rintro e w2 ⟨r, rfl, tr, hb2⟩
            have hr : r.size ≤ 32 := by rw [tr.size, sha_length]; omega
            go_wp2_with fail
            refine (mac_walk r m _ (by omega) (by omega)).mono ?_
            rintro e w3 ⟨u, rfl, tu, hb3⟩
            have hx : (t.toList == u.toList) = true := tt.same tu (by rw [tr]; exact (mac_long _ _ c5).symm)
            go_wp2_with fail
            refine (alive03 _).mono ?_
            rintro e w4 ⟨rfl, hb4⟩
            go_wp2_with fail
            go_ret
            have q1 := hb1.size
            have q2 := hb2.size
            have q3 := hb3.size
            exact ⟨rfl, ((hb1.trans (hb2.mono (by omega))).trans (hb3.mono (by omega))).trans (hb4.mono (by omega))⟩
          · have d5 : (k.size : Int) ≤ 64 := by omega
            by_cases c6 : 64 < (k.size : Int) + n
            · go_enter Try.func5, Try.ntmps5
              go_wp2_with fail
              refine (mac_walk k m _ (by omega) (by omega)).mono ?_
              rintro e w1 ⟨t, rfl, tt, hb1⟩
              go_wp2_with fail
              refine (alive03 _).mono ?_
              rintro e w4 ⟨rfl, hb4⟩
              go_wp2_with fail
              go_ret
              have q1 := hb1.size
              exact ⟨rfl, hb1.trans (hb4.mono (by omega))⟩
            · have d6 : (k.size : Int) + n ≤ 64 := by omega
              go_enter Try.func5, Try.ntmps5
              go_wp2_with fail
              refine (mac_walk k m _ (by omega) (by omega)).mono ?_
              rintro e w1 ⟨t, rfl, tt, hb1⟩
              go_wp2_with fail
              refine (noughts_walk n _ d3 (by omega)).mono ?_
              rintro e w2 ⟨z, rfl, tz, hb2⟩
              have hz : z.size ≤ 64 := by rw [tz.size, List.length_replicate]; omega
              go_wp2_with fail
              refine (mac_walk (k ++ z) m _ (by simp; omega) (by omega)).mono ?_
              rintro e w3 ⟨u, rfl, tu, hb3⟩
              have hx : (t.toList == u.toList) = true := tt.same tu (by
                rw [(Txt.self k).append tz]
                exact (mac_zeros _ _ _ (by show k.size + n.toNat ≤ 64; omega)).symm)
              go_wp2_with fail
              refine (alive03 _).mono ?_
              rintro e w4 ⟨rfl, hb4⟩
              go_wp2_with fail
              go_ret
              have q1 := hb1.size
              have q2 := hb2.size
              have q3 := hb3.size
              exact ⟨rfl, ((hb1.trans (hb2.mono (by omega))).trans (hb3.mono (by omega))).trans (hb4.mono (by omega))⟩

theorem hmacKeys_own : ownKnob Try.prog.godebug = none := by kernel_rfl
set_option maxRecDepth 100000 in
theorem hmacKeys_lifted (os : Os) (started : os.Started) (H : Type) (enc : TypeId × Value → H) :
    ReturnsInHanded {} Try.checked os 5 .any (Rows.hmacKeysSpec.pre6 enc Try.prog Try.f5 Rows.hmacKeysRow.domain false) (Rows.hmacKeysSpec.post enc Try.prog Try.f5 false true false false) := by
  refine returnsInHanded_of_change (C := Try.checked) hmacKeys_own started (by kernel_rfl) Try.func5
    (ChangeSpec.witness6 (enc := enc) (C := Try.checked) false ⟨#[], #[.string ByteArray.empty, .string ByteArray.empty, .int .i64 0], []⟩ 8 (by kernel_rfl) (by kernel_rfl) (by kernel_rfl) (by kernel_rfl)) ?_
  intro W base args ds gs before hval0 hW hcnd _
  have hval : ∀ (j : Nat) t v, Try.f5.params[j]? = some t → args[j]? = some v → Value.okWide Try.prog W .any base t v := hval0
  have hW' := hW
  obtain ⟨p, q, hA0, hV, rfl, hfz, hnd⟩ := hW
  have hA : DataW.TrodAll enc Try.prog W 0 (fun _ => true) true Try.f5.params.toList args.toList ds p := hA0
  rw [Try.params5] at hA hval
  obtain ⟨v0, vs0, d0, ds0, p0, q0, hargs, rfl, rfl, h0, r0⟩ := trodAll_cons hA
  obtain ⟨v1, vs1, d1, ds1, p1, q1, rfl, rfl, rfl, h1, r1⟩ := trodAll_cons r0
  obtain ⟨v2, vs2, d2, ds2, p2, q2, rfl, rfl, rfl, h2, r2⟩ := trodAll_cons r1
  obtain ⟨rfl, rfl, rfl⟩ := trodAll_nil r2
  obtain rfl : args = #[v0, v1, v2] := by cases args; simp_all
  obtain ⟨rfl, rfl⟩ := trodVars_none hV
  obtain ⟨a0, rfl, rfl, rfl, w0⟩ := open_string Try.underlying9 (hval 0 9 v0 rfl rfl) h0
  obtain ⟨a1, rfl, rfl, rfl, w1⟩ := open_string Try.underlying9 (hval 1 9 v1 rfl rfl) h1
  obtain ⟨a2, rfl, rfl, rfl, w2⟩ := open_int Try.underlying3 (hval 2 3 v2 rfl rfl) h2
  clear hA0 hval0
  refine (hmacKeys_walk a0 a1 a2 W).mono fun e W' ⟨he, bel⟩ => ?_
  subst he
  exact ⟨_, rfl, _, _, _, [], _, [], hW', trodAll_mk1 (shut_bool Try.underlying4 _), (trodAll_cons_mk (shut_string Try.underlying9 w0) (trodAll_cons_mk (shut_string Try.underlying9 w1) (trodAll_cons_mk (shut_int Try.underlying3 w2) trodAll_mk0))), rfl, bel.frame _, fun h => by cases h⟩

theorem hmacKeys_f1 : (Try.pinned).checked.prog.funcNamed Rows.hmacKeysRow.func = some 5 := by kernel_rfl
theorem hmacKeys_f2 : joinedFacts Try.prog 5 Try.f5 Rows.hmacKeysSpec Rows.hmacKeysRow = true := by
  unfold joinedFacts
  rw [fact_mayEnter, fact_lifted, fact_make]
  kernel_rfl
theorem hmacKeys_f3 : Func.isInstance (Try.pinned).checked.prog Try.f5 Rows.hmacKeysRow.origin Rows.hmacKeysRow.targs := of_decide_eq_true (by kernel_rfl)
theorem hmacKeys_f4 : Func.isWrapper (Try.pinned).checked.prog Try.f5 Rows.hmacKeysRow.wrapper Rows.hmacKeysRow.mainSum := by
  unfold Func.isWrapper; rw [if_neg (of_decide_eq_false (by kernel_rfl))]; exact ⟨rfl, rfl⟩
theorem hmacKeys_over : Rows.hmacKeysRow.holds Try.pinned (OpenSpec.ofChange Rows.hmacKeysSpec) :=
  OpenClaim.holds_of_wide 5 Try.f5 rfl rfl rfl rfl rfl rfl rfl ⟨rfl, rfl, rfl, rfl, rfl⟩ rfl rfl rfl rfl rfl hmacKeys_f1 Try.func5 hmacKeys_f2 hmacKeys_f3 hmacKeys_f4
    (fun os started H enc _ => hmacKeys_lifted os started H enc)

theorem hmacKeys_proved : Rows.HmacKeysSaid := hmacKeys_over
end Go.Proofs.Ytacoibiafpdoaaa
