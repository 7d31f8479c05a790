/- Walk of ArmorPuts: for every three texts the law returns true: named bytes as letters, and what letters are, are as the documents say. No condition. -/
import Derived.Test.YtgfaadggalnbgaaDoorArmNf
namespace Go.Proofs.YtgfaadggalnbgaaDoor
set_option linter.unusedSimpArgs false
set_option linter.unusedVariables false
open Go Go.RowKit
set_option linter.unusedVariables false

set_option maxHeartbeats 2000000 in
theorem armorPuts_walk (name s t : ByteArray) (w : World) :
    Calls Tryd.prog 3 #[.string name, .string s, .string t] w fun e w' => e = .returned (.bool true) ∧ Below w.heap.size w w' := by
  by_cases c1 : 1000 < name.size
  · have d1 : (1000 : Int) < name.size := by omega
    clear c1
    go_enter Tryd.func3, Tryd.ntmps3
    go_wp2_with fail
    refine (alive39 _).mono ?_
    rintro e wz ⟨rfl, hbz⟩
    go_wp2_with fail
    go_ret
    exact ⟨rfl, hbz⟩
  have d1 : (name.size : Int) ≤ 1000 := by omega
  by_cases c2 : 1000 < s.size ∧ s.size ≤ 4000
  · have d2 : (1000 : Int) < s.size := by omega
    have d3 : (s.size : Int) ≤ 4000 := by omega
    clear c2
    go_enter Tryd.func3, Tryd.ntmps3
    go_wp2_with fail
    refine (alive39 _).mono ?_
    rintro e wz ⟨rfl, hbz⟩
    go_wp2_with fail
    go_ret
    exact ⟨rfl, hbz⟩
  by_cases c3 : 10000 < s.size
  · have d2 : (1000 : Int) < s.size := by omega
    have d3 : (4000 : Int) < s.size := by omega
    have d4 : (10000 : Int) < s.size := by omega
    clear c2
    clear c3
    go_enter Tryd.func3, Tryd.ntmps3
    go_wp2_with fail
    refine (alive39 _).mono ?_
    rintro e wz ⟨rfl, hbz⟩
    go_wp2_with fail
    go_ret
    exact ⟨rfl, hbz⟩
  have d4 : (s.size : Int) ≤ 10000 := by omega
  by_cases c5 : 1000 < s.size
  · have d2 : (1000 : Int) < s.size := by omega
    have d3 : (4000 : Int) < s.size := by omega
    by_cases c4 : 1500 < t.size
    · have d5 : (1500 : Int) < t.size := by omega
      clear c4
      go_enter Tryd.func3, Tryd.ntmps3
      go_wp2_with fail
      refine (alive39 _).mono ?_
      rintro e wz ⟨rfl, hbz⟩
      go_wp2_with fail
      go_ret
      exact ⟨rfl, hbz⟩
    have d5 : (t.size : Int) ≤ 1500 := by omega
    clear c1 c2 c3 c4 c5
    cases h1 : armOk name.data.toList s.data.toList with
    | true =>
      have H1 := Lib.hid h1; clear h1
      cases h2 : armTake t.data.toList with
      | some p =>
        obtain ⟨n', s'⟩ := p
        have H2 := Lib.hid h2; clear h2
        go_enter Tryd.func3, Tryd.ntmps3
        go_wp2_with fail
        refine (aput_walk name s _ (by omega) (by omega)).mono ?_
        rintro e w1 ⟨he, hb1⟩
        obtain ⟨a, rfl, ta⟩ := he.nf H1.out
        clear he
        go_wp2_with fail
        refine (rarmput_walk name s _ (by omega) (by omega)).mono ?_
        rintro e w2 ⟨he, hb2⟩
        obtain ⟨b, rfl, tb⟩ := he.nf H1.out
        clear he
        have e1 : (a.toList == b.toList) = true := ta.same tb rfl
        clear ta tb
        go_wp2_with fail
        refine (atake_walk t _ (by omega)).mono ?_
        rintro e w3 ⟨he, hb3⟩
        obtain ⟨x, y, rfl, tx, ty⟩ := he.some H2.out
        clear he
        go_wp2_with fail
        refine (rarmtake_walk t _ (by omega)).mono ?_
        rintro e w4 ⟨he, hb4⟩
        obtain ⟨u, v, rfl, tu, tv⟩ := he.some H2.out
        clear he
        have e2 : (x.toList == u.toList) = true := tx.same tu rfl
        have e3 : (y.toList == v.toList) = true := ty.same tv rfl
        clear tx ty tu tv
        go_wp2_with fail
        refine (alive39 _).mono ?_
        rintro e wz ⟨rfl, hbz⟩
        go_wp2_with fail
        go_ret
        exact ⟨rfl, bt hb1 (bt hb2 (bt hb3 (bt hb4 hbz)))⟩
      | none =>
        have H2 := Lib.hid h2; clear h2
        go_enter Tryd.func3, Tryd.ntmps3
        go_wp2_with fail
        refine (aput_walk name s _ (by omega) (by omega)).mono ?_
        rintro e w1 ⟨he, hb1⟩
        obtain ⟨a, rfl, ta⟩ := he.nf H1.out
        clear he
        go_wp2_with fail
        refine (rarmput_walk name s _ (by omega) (by omega)).mono ?_
        rintro e w2 ⟨he, hb2⟩
        obtain ⟨b, rfl, tb⟩ := he.nf H1.out
        clear he
        have e1 : (a.toList == b.toList) = true := ta.same tb rfl
        clear ta tb
        go_wp2_with fail
        refine (atake_walk t _ (by omega)).mono ?_
        rintro e w3 ⟨he, hb3⟩
        obtain rfl := he.none H2.out
        clear he
        go_wp2_with fail
        refine (rarmtake_walk t _ (by omega)).mono ?_
        rintro e w4 ⟨he, hb4⟩
        obtain rfl := he.none H2.out
        clear he
        go_wp2_with fail
        refine (alive39 _).mono ?_
        rintro e wz ⟨rfl, hbz⟩
        go_wp2_with fail
        go_ret
        exact ⟨rfl, bt hb1 (bt hb2 (bt hb3 (bt hb4 hbz)))⟩
    | false =>
      have H1 := Lib.hid h1; clear h1
      cases h2 : armTake t.data.toList with
      | some p =>
        obtain ⟨n', s'⟩ := p
        have H2 := Lib.hid h2; clear h2
        go_enter Tryd.func3, Tryd.ntmps3
        go_wp2_with fail
        refine (aput_walk name s _ (by omega) (by omega)).mono ?_
        rintro e w1 ⟨he, hb1⟩
        obtain ⟨a, rfl, ta⟩ := he.nf H1.out
        clear he
        go_wp2_with fail
        refine (rarmput_walk name s _ (by omega) (by omega)).mono ?_
        rintro e w2 ⟨he, hb2⟩
        obtain ⟨b, rfl, tb⟩ := he.nf H1.out
        clear he
        have e1 : (a.toList == b.toList) = true := ta.same tb rfl
        clear ta tb
        go_wp2_with fail
        refine (atake_walk t _ (by omega)).mono ?_
        rintro e w3 ⟨he, hb3⟩
        obtain ⟨x, y, rfl, tx, ty⟩ := he.some H2.out
        clear he
        go_wp2_with fail
        refine (rarmtake_walk t _ (by omega)).mono ?_
        rintro e w4 ⟨he, hb4⟩
        obtain ⟨u, v, rfl, tu, tv⟩ := he.some H2.out
        clear he
        have e2 : (x.toList == u.toList) = true := tx.same tu rfl
        have e3 : (y.toList == v.toList) = true := ty.same tv rfl
        clear tx ty tu tv
        go_wp2_with fail
        refine (alive39 _).mono ?_
        rintro e wz ⟨rfl, hbz⟩
        go_wp2_with fail
        go_ret
        exact ⟨rfl, bt hb1 (bt hb2 (bt hb3 (bt hb4 hbz)))⟩
      | none =>
        have H2 := Lib.hid h2; clear h2
        go_enter Tryd.func3, Tryd.ntmps3
        go_wp2_with fail
        refine (aput_walk name s _ (by omega) (by omega)).mono ?_
        rintro e w1 ⟨he, hb1⟩
        obtain ⟨a, rfl, ta⟩ := he.nf H1.out
        clear he
        go_wp2_with fail
        refine (rarmput_walk name s _ (by omega) (by omega)).mono ?_
        rintro e w2 ⟨he, hb2⟩
        obtain ⟨b, rfl, tb⟩ := he.nf H1.out
        clear he
        have e1 : (a.toList == b.toList) = true := ta.same tb rfl
        clear ta tb
        go_wp2_with fail
        refine (atake_walk t _ (by omega)).mono ?_
        rintro e w3 ⟨he, hb3⟩
        obtain rfl := he.none H2.out
        clear he
        go_wp2_with fail
        refine (rarmtake_walk t _ (by omega)).mono ?_
        rintro e w4 ⟨he, hb4⟩
        obtain rfl := he.none H2.out
        clear he
        go_wp2_with fail
        refine (alive39 _).mono ?_
        rintro e wz ⟨rfl, hbz⟩
        go_wp2_with fail
        go_ret
        exact ⟨rfl, bt hb1 (bt hb2 (bt hb3 (bt hb4 hbz)))⟩
  · have d2 : (s.size : Int) ≤ 1000 := by omega
    by_cases c4 : 1500 < t.size
    · have d5 : (1500 : Int) < t.size := by omega
      clear c4
      go_enter Tryd.func3, Tryd.ntmps3
      go_wp2_with fail
      refine (alive39 _).mono ?_
      rintro e wz ⟨rfl, hbz⟩
      go_wp2_with fail
      go_ret
      exact ⟨rfl, hbz⟩
    have d5 : (t.size : Int) ≤ 1500 := by omega
    clear c1 c2 c3 c4 c5
    cases h1 : armOk name.data.toList s.data.toList with
    | true =>
      have H1 := Lib.hid h1; clear h1
      cases h2 : armTake t.data.toList with
      | some p =>
        obtain ⟨n', s'⟩ := p
        have H2 := Lib.hid h2; clear h2
        go_enter Tryd.func3, Tryd.ntmps3
        go_wp2_with fail
        refine (aput_walk name s _ (by omega) (by omega)).mono ?_
        rintro e w1 ⟨he, hb1⟩
        obtain ⟨a, rfl, ta⟩ := he.nf H1.out
        clear he
        go_wp2_with fail
        refine (rarmput_walk name s _ (by omega) (by omega)).mono ?_
        rintro e w2 ⟨he, hb2⟩
        obtain ⟨b, rfl, tb⟩ := he.nf H1.out
        clear he
        have e1 : (a.toList == b.toList) = true := ta.same tb rfl
        clear ta tb
        go_wp2_with fail
        refine (atake_walk t _ (by omega)).mono ?_
        rintro e w3 ⟨he, hb3⟩
        obtain ⟨x, y, rfl, tx, ty⟩ := he.some H2.out
        clear he
        go_wp2_with fail
        refine (rarmtake_walk t _ (by omega)).mono ?_
        rintro e w4 ⟨he, hb4⟩
        obtain ⟨u, v, rfl, tu, tv⟩ := he.some H2.out
        clear he
        have e2 : (x.toList == u.toList) = true := tx.same tu rfl
        have e3 : (y.toList == v.toList) = true := ty.same tv rfl
        clear tx ty tu tv
        go_wp2_with fail
        refine (alive39 _).mono ?_
        rintro e wz ⟨rfl, hbz⟩
        go_wp2_with fail
        go_ret
        exact ⟨rfl, bt hb1 (bt hb2 (bt hb3 (bt hb4 hbz)))⟩
      | none =>
        have H2 := Lib.hid h2; clear h2
        go_enter Tryd.func3, Tryd.ntmps3
        go_wp2_with fail
        refine (aput_walk name s _ (by omega) (by omega)).mono ?_
        rintro e w1 ⟨he, hb1⟩
        obtain ⟨a, rfl, ta⟩ := he.nf H1.out
        clear he
        go_wp2_with fail
        refine (rarmput_walk name s _ (by omega) (by omega)).mono ?_
        rintro e w2 ⟨he, hb2⟩
        obtain ⟨b, rfl, tb⟩ := he.nf H1.out
        clear he
        have e1 : (a.toList == b.toList) = true := ta.same tb rfl
        clear ta tb
        go_wp2_with fail
        refine (atake_walk t _ (by omega)).mono ?_
        rintro e w3 ⟨he, hb3⟩
        obtain rfl := he.none H2.out
        clear he
        go_wp2_with fail
        refine (rarmtake_walk t _ (by omega)).mono ?_
        rintro e w4 ⟨he, hb4⟩
        obtain rfl := he.none H2.out
        clear he
        go_wp2_with fail
        refine (alive39 _).mono ?_
        rintro e wz ⟨rfl, hbz⟩
        go_wp2_with fail
        go_ret
        exact ⟨rfl, bt hb1 (bt hb2 (bt hb3 (bt hb4 hbz)))⟩
    | false =>
      have H1 := Lib.hid h1; clear h1
      cases h2 : armTake t.data.toList with
      | some p =>
        obtain ⟨n', s'⟩ := p
        have H2 := Lib.hid h2; clear h2
        go_enter Tryd.func3, Tryd.ntmps3
        go_wp2_with fail
        refine (aput_walk name s _ (by omega) (by omega)).mono ?_
        rintro e w1 ⟨he, hb1⟩
        obtain ⟨a, rfl, ta⟩ := he.nf H1.out
        clear he
        go_wp2_with fail
        refine (rarmput_walk name s _ (by omega) (by omega)).mono ?_
        rintro e w2 ⟨he, hb2⟩
        obtain ⟨b, rfl, tb⟩ := he.nf H1.out
        clear he
        have e1 : (a.toList == b.toList) = true := ta.same tb rfl
        clear ta tb
        go_wp2_with fail
        refine (atake_walk t _ (by omega)).mono ?_
        rintro e w3 ⟨he, hb3⟩
        obtain ⟨x, y, rfl, tx, ty⟩ := he.some H2.out
        clear he
        go_wp2_with fail
        refine (rarmtake_walk t _ (by omega)).mono ?_
        rintro e w4 ⟨he, hb4⟩
        obtain ⟨u, v, rfl, tu, tv⟩ := he.some H2.out
        clear he
        have e2 : (x.toList == u.toList) = true := tx.same tu rfl
        have e3 : (y.toList == v.toList) = true := ty.same tv rfl
        clear tx ty tu tv
        go_wp2_with fail
        refine (alive39 _).mono ?_
        rintro e wz ⟨rfl, hbz⟩
        go_wp2_with fail
        go_ret
        exact ⟨rfl, bt hb1 (bt hb2 (bt hb3 (bt hb4 hbz)))⟩
      | none =>
        have H2 := Lib.hid h2; clear h2
        go_enter Tryd.func3, Tryd.ntmps3
        go_wp2_with fail
        refine (aput_walk name s _ (by omega) (by omega)).mono ?_
        rintro e w1 ⟨he, hb1⟩
        obtain ⟨a, rfl, ta⟩ := he.nf H1.out
        clear he
        go_wp2_with fail
        refine (rarmput_walk name s _ (by omega) (by omega)).mono ?_
        rintro e w2 ⟨he, hb2⟩
        obtain ⟨b, rfl, tb⟩ := he.nf H1.out
        clear he
        have e1 : (a.toList == b.toList) = true := ta.same tb rfl
        clear ta tb
        go_wp2_with fail
        refine (atake_walk t _ (by omega)).mono ?_
        rintro e w3 ⟨he, hb3⟩
        obtain rfl := he.none H2.out
        clear he
        go_wp2_with fail
        refine (rarmtake_walk t _ (by omega)).mono ?_
        rintro e w4 ⟨he, hb4⟩
        obtain rfl := he.none H2.out
        clear he
        go_wp2_with fail
        refine (alive39 _).mono ?_
        rintro e wz ⟨rfl, hbz⟩
        go_wp2_with fail
        go_ret
        exact ⟨rfl, bt hb1 (bt hb2 (bt hb3 (bt hb4 hbz)))⟩
end Go.Proofs.YtgfaadggalnbgaaDoor
