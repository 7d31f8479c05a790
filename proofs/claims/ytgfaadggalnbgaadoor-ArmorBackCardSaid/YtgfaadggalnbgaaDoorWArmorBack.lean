/- Walk of ArmorBack: for every three texts the law returns true: letters lead back to their bytes, named ones to their name and bytes. No condition. -/
import Derived.Test.YtgfaadggalnbgaaDoorArmNf
namespace Go.Proofs.YtgfaadggalnbgaaDoor
set_option linter.unusedSimpArgs false
set_option linter.unusedVariables false
open Go Go.RowKit
set_option linter.unusedVariables false

set_option maxHeartbeats 2000000 in
theorem armorBack_walk (name s t : ByteArray) (w : World) :
    Calls Tryd.prog 4 #[.string name, .string s, .string t] w fun e w' => e = .returned (.bool true) ∧ Below w.heap.size w w' := by
  by_cases c1 : 1000 < name.size
  · have d1 : (1000 : Int) < name.size := by omega
    clear c1
    go_enter Tryd.func4, Tryd.ntmps4
    go_wp2_with fail
    refine (alive39 _).mono ?_
    rintro e wz ⟨rfl, hbz⟩
    go_wp2_with fail
    go_ret
    exact ⟨rfl, hbz⟩
  have d1 : (name.size : Int) ≤ 1000 := by omega
  by_cases c2 : 4000 < s.size
  · have d2 : (4000 : Int) < s.size := by omega
    clear c2
    go_enter Tryd.func4, Tryd.ntmps4
    go_wp2_with fail
    refine (alive39 _).mono ?_
    rintro e wz ⟨rfl, hbz⟩
    go_wp2_with fail
    go_ret
    exact ⟨rfl, hbz⟩
  have d2 : (s.size : Int) ≤ 4000 := by omega
  by_cases c3 : 4000 < t.size
  · have d3 : (4000 : Int) < t.size := by omega
    clear c3
    go_enter Tryd.func4, Tryd.ntmps4
    go_wp2_with fail
    refine (alive39 _).mono ?_
    rintro e wz ⟨rfl, hbz⟩
    go_wp2_with fail
    go_ret
    exact ⟨rfl, hbz⟩
  have d3 : (t.size : Int) ≤ 4000 := by omega
  clear c1 c2 c3
  cases h1 : armOk name.data.toList s.data.toList with
  | true =>
    have H1 := Lib.hid h1; clear h1
    cases h2 : armTake t.data.toList with
    | some p =>
      obtain ⟨n', s'⟩ := p
      have H2 := Lib.hid h2; clear h2
      go_enter Tryd.func4, Tryd.ntmps4
      go_wp2_with fail
      refine (aletters_walk s _ (by omega)).mono ?_
      rintro e w1 ⟨q, rfl, tq, hb1⟩
      have hqz : q.size ≤ 16777216 := by
        rw [tq.size, letL_length]
        have : s.data.toList.length = s.size := rfl
        omega
      go_wp2_with fail
      refine (abytes_walk q _ hqz).mono ?_
      rintro e w2 ⟨he, hb2⟩
      obtain ⟨b, rfl, tb⟩ : ∃ b, e = .returned (.tuple #[.string b, .int .i64 0]) ∧ Txt b s.data.toList := by
        unfold ABytesEnd at he
        rw [show q.data.toList = _ from tq, decL_letL'] at he
        rcases he with ⟨o, h1, r, h2, h3⟩ | ⟨h1, _⟩
        · injection h1 with h1
          subst h1
          exact ⟨r, h2, h3⟩
        · cases h1
      clear he tq hqz
      have e1 : (b.toList == s.toList) = true := tb.same (Txt.self s) rfl
      clear tb
      go_wp2_with fail
      refine (aput_walk name s _ (by omega) (by omega)).mono ?_
      rintro e w3 ⟨he, hb3⟩
      obtain ⟨a, rfl, ta⟩ := he.nf H1.out
      clear he
      have haz : a.size ≤ 16777216 := by
        rw [ta.size]
        have := armPut_length name.data.toList s.data.toList
        have e1 : name.data.toList.length = name.size := rfl
        have e2 : s.data.toList.length = s.size := rfl
        rw [if_pos rfl]
        omega
      have hat : armTake a.data.toList = some (name.data.toList, s.data.toList) := by rw [show a.data.toList = _ from ta]; exact armTake_put H1.out (armOk_no58 H1.out)
      have HAT := Lib.hid hat
      clear ta hat
      go_wp2_with fail
      refine (atake_walk a _ haz).mono ?_
      rintro e w4 ⟨he, hb4⟩
      obtain ⟨n1, x1, rfl, tn1, tx1⟩ := he.some HAT.out
      clear he haz
      have e2 : (n1.toList == name.toList) = true := tn1.same (Txt.self name) rfl
      have e3 : (x1.toList == s.toList) = true := tx1.same (Txt.self s) rfl
      clear tn1 tx1 HAT
      go_wp2_with fail
      refine (atake_walk t _ (by omega)).mono ?_
      rintro e w5 ⟨he, hb5⟩
      obtain ⟨n2, x2, rfl, tn2, tx2⟩ := he.some H2.out
      clear he
      have hback := armTake_back H2.out
      have hsz := armOk_size hback.1
      have hn2 : n2.size ≤ 1073741824 := by rw [tn2.size]; omega
      have hx2 : x2.size ≤ 1073741824 := by rw [tx2.size]; omega
      have hok : armOk n2.data.toList x2.data.toList = true := by rw [show n2.data.toList = _ from tn2, show x2.data.toList = _ from tx2]; exact hback.1
      have hpt : armPut n2.data.toList x2.data.toList = t.data.toList := by rw [show n2.data.toList = _ from tn2, show x2.data.toList = _ from tx2]; exact hback.2
      have HOK := Lib.hid hok
      have HPT := Lib.hid hpt
      clear hok hpt hback hsz tn2 tx2
      go_wp2_with fail
      refine (aput_walk n2 x2 _ hn2 hx2).mono ?_
      rintro e w6 ⟨he, hb6⟩
      obtain ⟨z, rfl, tz⟩ := he.nf HOK.out
      clear he hn2 hx2
      have e4 : (z.toList == t.toList) = true := tz.same (Txt.self t) HPT.out
      clear tz
      go_wp2_with fail
      refine (alive39 _).mono ?_
      rintro e wz ⟨rfl, hbz⟩
      go_wp2_with fail
      go_ret
      exact ⟨rfl, bt hb1 (bt hb2 (bt hb3 (bt hb4 (bt hb5 (bt hb6 hbz)))))⟩
    | none =>
      have H2 := Lib.hid h2; clear h2
      go_enter Tryd.func4, Tryd.ntmps4
      go_wp2_with fail
      refine (aletters_walk s _ (by omega)).mono ?_
      rintro e w1 ⟨q, rfl, tq, hb1⟩
      have hqz : q.size ≤ 16777216 := by
        rw [tq.size, letL_length]
        have : s.data.toList.length = s.size := rfl
        omega
      go_wp2_with fail
      refine (abytes_walk q _ hqz).mono ?_
      rintro e w2 ⟨he, hb2⟩
      obtain ⟨b, rfl, tb⟩ : ∃ b, e = .returned (.tuple #[.string b, .int .i64 0]) ∧ Txt b s.data.toList := by
        unfold ABytesEnd at he
        rw [show q.data.toList = _ from tq, decL_letL'] at he
        rcases he with ⟨o, h1, r, h2, h3⟩ | ⟨h1, _⟩
        · injection h1 with h1
          subst h1
          exact ⟨r, h2, h3⟩
        · cases h1
      clear he tq hqz
      have e1 : (b.toList == s.toList) = true := tb.same (Txt.self s) rfl
      clear tb
      go_wp2_with fail
      refine (aput_walk name s _ (by omega) (by omega)).mono ?_
      rintro e w3 ⟨he, hb3⟩
      obtain ⟨a, rfl, ta⟩ := he.nf H1.out
      clear he
      have haz : a.size ≤ 16777216 := by
        rw [ta.size]
        have := armPut_length name.data.toList s.data.toList
        have e1 : name.data.toList.length = name.size := rfl
        have e2 : s.data.toList.length = s.size := rfl
        rw [if_pos rfl]
        omega
      have hat : armTake a.data.toList = some (name.data.toList, s.data.toList) := by rw [show a.data.toList = _ from ta]; exact armTake_put H1.out (armOk_no58 H1.out)
      have HAT := Lib.hid hat
      clear ta hat
      go_wp2_with fail
      refine (atake_walk a _ haz).mono ?_
      rintro e w4 ⟨he, hb4⟩
      obtain ⟨n1, x1, rfl, tn1, tx1⟩ := he.some HAT.out
      clear he haz
      have e2 : (n1.toList == name.toList) = true := tn1.same (Txt.self name) rfl
      have e3 : (x1.toList == s.toList) = true := tx1.same (Txt.self s) rfl
      clear tn1 tx1 HAT
      go_wp2_with fail
      refine (atake_walk t _ (by omega)).mono ?_
      rintro e w5 ⟨he, hb5⟩
      obtain rfl := he.none H2.out
      clear he
      go_wp2_with fail
      refine (alive39 _).mono ?_
      rintro e wz ⟨rfl, hbz⟩
      go_wp2_with fail
      go_ret
      exact ⟨rfl, bt hb1 (bt hb2 (bt hb3 (bt hb4 (bt hb5 hbz))))⟩
  | false =>
    have H1 := Lib.hid h1; clear h1
    cases h2 : armTake t.data.toList with
    | some p =>
      obtain ⟨n', s'⟩ := p
      have H2 := Lib.hid h2; clear h2
      go_enter Tryd.func4, Tryd.ntmps4
      go_wp2_with fail
      refine (aletters_walk s _ (by omega)).mono ?_
      rintro e w1 ⟨q, rfl, tq, hb1⟩
      have hqz : q.size ≤ 16777216 := by
        rw [tq.size, letL_length]
        have : s.data.toList.length = s.size := rfl
        omega
      go_wp2_with fail
      refine (abytes_walk q _ hqz).mono ?_
      rintro e w2 ⟨he, hb2⟩
      obtain ⟨b, rfl, tb⟩ : ∃ b, e = .returned (.tuple #[.string b, .int .i64 0]) ∧ Txt b s.data.toList := by
        unfold ABytesEnd at he
        rw [show q.data.toList = _ from tq, decL_letL'] at he
        rcases he with ⟨o, h1, r, h2, h3⟩ | ⟨h1, _⟩
        · injection h1 with h1
          subst h1
          exact ⟨r, h2, h3⟩
        · cases h1
      clear he tq hqz
      have e1 : (b.toList == s.toList) = true := tb.same (Txt.self s) rfl
      clear tb
      go_wp2_with fail
      refine (aput_walk name s _ (by omega) (by omega)).mono ?_
      rintro e w3 ⟨he, hb3⟩
      obtain ⟨a, rfl, ta⟩ := he.nf H1.out
      clear he
      clear ta
      go_wp2_with fail
      refine (atake_walk t _ (by omega)).mono ?_
      rintro e w5 ⟨he, hb5⟩
      obtain ⟨n2, x2, rfl, tn2, tx2⟩ := he.some H2.out
      clear he
      have hback := armTake_back H2.out
      have hsz := armOk_size hback.1
      have hn2 : n2.size ≤ 1073741824 := by rw [tn2.size]; omega
      have hx2 : x2.size ≤ 1073741824 := by rw [tx2.size]; omega
      have hok : armOk n2.data.toList x2.data.toList = true := by rw [show n2.data.toList = _ from tn2, show x2.data.toList = _ from tx2]; exact hback.1
      have hpt : armPut n2.data.toList x2.data.toList = t.data.toList := by rw [show n2.data.toList = _ from tn2, show x2.data.toList = _ from tx2]; exact hback.2
      have HOK := Lib.hid hok
      have HPT := Lib.hid hpt
      clear hok hpt hback hsz tn2 tx2
      go_wp2_with fail
      refine (aput_walk n2 x2 _ hn2 hx2).mono ?_
      rintro e w6 ⟨he, hb6⟩
      obtain ⟨z, rfl, tz⟩ := he.nf HOK.out
      clear he hn2 hx2
      have e4 : (z.toList == t.toList) = true := tz.same (Txt.self t) HPT.out
      clear tz
      go_wp2_with fail
      refine (alive39 _).mono ?_
      rintro e wz ⟨rfl, hbz⟩
      go_wp2_with fail
      go_ret
      exact ⟨rfl, bt hb1 (bt hb2 (bt hb3 ((bt hb5 (bt hb6 hbz)))))⟩
    | none =>
      have H2 := Lib.hid h2; clear h2
      go_enter Tryd.func4, Tryd.ntmps4
      go_wp2_with fail
      refine (aletters_walk s _ (by omega)).mono ?_
      rintro e w1 ⟨q, rfl, tq, hb1⟩
      have hqz : q.size ≤ 16777216 := by
        rw [tq.size, letL_length]
        have : s.data.toList.length = s.size := rfl
        omega
      go_wp2_with fail
      refine (abytes_walk q _ hqz).mono ?_
      rintro e w2 ⟨he, hb2⟩
      obtain ⟨b, rfl, tb⟩ : ∃ b, e = .returned (.tuple #[.string b, .int .i64 0]) ∧ Txt b s.data.toList := by
        unfold ABytesEnd at he
        rw [show q.data.toList = _ from tq, decL_letL'] at he
        rcases he with ⟨o, h1, r, h2, h3⟩ | ⟨h1, _⟩
        · injection h1 with h1
          subst h1
          exact ⟨r, h2, h3⟩
        · cases h1
      clear he tq hqz
      have e1 : (b.toList == s.toList) = true := tb.same (Txt.self s) rfl
      clear tb
      go_wp2_with fail
      refine (aput_walk name s _ (by omega) (by omega)).mono ?_
      rintro e w3 ⟨he, hb3⟩
      obtain ⟨a, rfl, ta⟩ := he.nf H1.out
      clear he
      clear ta
      go_wp2_with fail
      refine (atake_walk t _ (by omega)).mono ?_
      rintro e w5 ⟨he, hb5⟩
      obtain rfl := he.none H2.out
      clear he
      go_wp2_with fail
      refine (alive39 _).mono ?_
      rintro e wz ⟨rfl, hbz⟩
      go_wp2_with fail
      go_ret
      exact ⟨rfl, bt hb1 (bt hb2 (bt hb3 ((bt hb5 hbz))))⟩
end Go.Proofs.YtgfaadggalnbgaaDoor
