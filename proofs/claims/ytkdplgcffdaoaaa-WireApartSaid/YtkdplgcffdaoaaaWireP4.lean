/- Walks of wire's part: text, record, receipt, both ways, with their closures (chapter 27). -/
import Derived.Test.YtkdplgcffdaoaaaWireP3
namespace Go.Proofs.Ytkdplgcffdaoaaa
set_option linter.unusedSimpArgs false
set_option linter.unusedVariables false
open Go Go.RowKit
set_option linter.unusedVariables false

theorem hmakef : ∀ (fn : Fn) (first cap : Array Value) (w : World), (Instr.makeFunc fn first cap).run Try.prog w = .ok (.func fn first cap) w := fun _ _ _ _ => rfl
set_option maxHeartbeats 2000000 in
/-- The closure that reads a text. -/
theorem textc_walk (s : ByteArray) (vb b i : Nat) (cs : List Value) (t : TypeId) (w : World) (hv : Blk w vb [.pointer (some ⟨b, i, none⟩)] 98) (hb : Blk w b cs t) (hi : i < cs.length) (hne : b ≠ vb) (hs : s.size ≤ 1048576) :
    Calls Try.prog 87 #[.string s, .pointer (some ⟨vb, 0, none⟩)] w fun e w' =>
      ∃ x left f, e = .returned (.tuple #[.string left, .int .i64 f]) ∧ Blk w' b (cs.set i (.string x)) t ∧ Turned [b] w w' ∧ ((f = 0 ∧ cutS s.data.toList = some (x.data.toList, left.data.toList)) ∨ (f = 3 ∧ cutS s.data.toList = none)) := by
  have HV := Lib.hid hv; have HBL := Lib.hid hb
  clear hv hb
  go_enter Try.func87, Try.ntmps87
  go_wp2_with fail
  refine (ocut_walk s _).mono ?_
  rintro e w1 ⟨he, hb1⟩
  obtain ⟨x, y, f, rfl, hx⟩ : ∃ x y f, e = .returned (.tuple #[.string x, .string y, .int .i64 f]) ∧ ((f = 0 ∧ cutS s.data.toList = some (x.data.toList, y.data.toList)) ∨ (f = 3 ∧ cutS s.data.toList = none ∧ x = ⟨#[]⟩)) := by
    rcases he with ⟨a, b, x, y, h1, h2, h3, h4⟩ | ⟨h1, h2⟩
    · exact ⟨x, y, 0, h2, .inl ⟨rfl, by rw [h1, show x.data.toList = _ from h3, show y.data.toList = _ from h4]⟩⟩
    · exact ⟨_, _, 3, h2, .inr ⟨rfl, h1, rfl⟩⟩
  have hxs : x.size ≤ 1048576 := by
    rcases hx with ⟨_, h⟩ | ⟨_, _, h⟩
    · have := (cutS_len h).1
      have e1 : x.data.toList.length = x.size := rfl
      have e2 : s.data.toList.length = s.size := rfl
      omega
    · rw [h]; decide
  have HX := Lib.hid hx
  have V1 := Lib.hid (HV.out.below hb1 HV.out.lt)
  have B1 := Lib.hid (HBL.out.below hb1 HBL.out.lt)
  have T1 : Hid (Turned [b] w w1) := Lib.hid (Turned.of_below hb1 (Nat.le_refl _))
  clear he hx hb1 HV HBL
  have v0 := V1.out.cell (i := 0) rfl
  have f0 := B1.out.free i
  obtain ⟨u, hu⟩ : ∃ u, w1.cell? ⟨b, i, none⟩ = some u := ⟨_, B1.out.cell (List.getElem?_eq_getElem hi)⟩
  go_wp2_with fail
  have VD := V1.out.drew
  have BD := B1.out.drew
  have TD := T1.out.drew
  go_region_with ((go_at_call 88; refine (clone_walk x _ (by omega)).mono ?_; rintro e wA ⟨rfl, hbA⟩; have vA := (VD.below hbA V1.out.lt).cell (i := 0) rfl; have BA := BD.below hbA B1.out.lt; have fA := BA.free i; have uA := BA.cell (List.getElem?_eq_getElem hi); have TA := TD.trans (Turned.of_below hbA (Nat.le_refl _))))
  all_goals go_wp2_with fail
  all_goals go_ret2
  all_goals refine ⟨x, _, f, rfl, BA.set i _, TA.setCell (.inl (by simp)) i _, ?_⟩
  all_goals exact HX.out.imp id (fun h => ⟨h.1, h.2.1⟩)
set_option maxHeartbeats 2000000 in
/-- 'rest' with that closure. -/
theorem restText_walk (q : Nat) (s : ByteArray) (br : Bool) (vb b i : Nat) (cs : List Value) (t : TypeId) (w : World) (hp : PartAt w q s true br) (hv : Blk w vb [.pointer (some ⟨b, i, none⟩)] 98) (hb : Blk w b cs t) (hi : i < cs.length) (hne : b ≠ vb) (hbq : b ≠ q) (hs : s.size ≤ 1048576) :
    Calls Try.prog 70 #[.pointer (some ⟨q, 0, none⟩), .func (.func 87) #[] #[.pointer (some ⟨vb, 0, none⟩)]] w
      (Ends1 w q b true br cs.length t (textF true ⟨#[]⟩ s.data.toList) (fun y => cs.set i (.string y))) := by
  have c0 := hp.c0
  have HP := Lib.hid hp
  clear hp
  go_enter Try.func70, Try.ntmps70
  go_wp2_with fail
  refine (textc_walk s vb b i cs t _ hv hb hi hne hs).mono ?_
  rintro e w1 ⟨x, left, f, rfl, B1, T1, hf⟩
  have P1 := HP.out.turned T1 (by simp; exact fun e => hbq e.symm)
  have HB := Lib.hid B1; have HT := Lib.hid T1; have HPP := Lib.hid P1
  clear B1 T1 P1 c0 hv hb
  have p0 := HPP.out.c0
  have pf := Blk.free HPP.out 0
  rcases hf with ⟨rfl, hc⟩ | ⟨rfl, hc⟩
  · have HC := Lib.hid (show textF true ⟨#[]⟩ s.data.toList = some (x, left.data.toList) by unfold textF; rw [if_pos rfl, hc])
    clear hc
    go_wp2_with fail
    first | go_end0 | ((try simp only [Exit.inBlock, Exit.then]); refine bodyPost_ret (results_none rfl _ _ _) rfl ?_)
    rw [HC.out]
    exact ⟨rfl, ⟨left, Txt.self left, HPP.out.set left⟩, HB.out.set_other hbq _, (HT.out.mono (by simp)).setCell (.inl (by simp)) 0 _⟩
  · have HC := Lib.hid (show textF true ⟨#[]⟩ s.data.toList = none by unfold textF; rw [if_pos rfl, hc])
    clear hc
    go_wp2_with fail
    refine ⟨rfl, ?_⟩
    rw [HC.out]
    exact ⟨rfl, ⟨_, by simp, HB.out⟩, HT.out.mono (by simp)⟩
set_option maxHeartbeats 2000000 in
theorem text_any (q : Nat) (s : ByteArray) (rd br : Bool) (b i : Nat) (x : ByteArray) (cs : List Value) (t : TypeId) (w : World) (hp : PartAt w q s rd br) (hb : Blk w b cs t) (hi : cs[i]? = some (.string x)) (hne : b ≠ q)
    (hs : s.size ≤ 1048576) (hx : rd = false → x.size ≤ 1048576) :
    Calls Try.prog 74 #[.pointer (some ⟨q, 0, none⟩), .pointer (some ⟨b, i, none⟩)] w
      (Ends1 w q b rd br cs.length t (textF rd x s.data.toList) (fun y => cs.set i (.string y))) := by
  have HP := Lib.hid hp; have HBL := Lib.hid hb; have HI := Lib.hid hi
  have hmf := hmakef
  clear hp hb hi
  cases rd with
  | true =>
    go_enter Try.func74, Try.ntmps74
    go_wp2_with (first
      | ((with_reducible refine wpList_box_one 98 (.tmp 1) (.pointer (some ⟨b, i, none⟩)) rfl (some 3) ?hgd ?ho ?hd ?hx ?_); (case hgd => rfl); (case ho => rfl); (case hd => rfl); (case hx => rfl); (intro b3 w3 l3 B3 e3 z3); have PP3 := HP.out.below e3 (Nat.lt_of_lt_of_le HP.out.lt l3); have q3 := PP3.c1)
      | fail)
    have BB3 := HBL.out.below e3 (Nat.lt_of_lt_of_le HBL.out.lt l3)
    have HPP := Lib.hid PP3; have HB3 := Lib.hid BB3; have HV := Lib.hid B3
    have T3 : Hid (Turned [q, b] w w3) := Lib.hid (Turned.of_below e3 l3)
    have hb3 : b ≠ b3 := by have := HBL.out.lt; omega
    have hil : i < cs.length := (List.getElem?_eq_some_iff.1 HI.out).1
    clear PP3 BB3 B3 e3 z3 q3
    refine (restText_walk q s br b3 b i cs t _ HPP.out HV.out HB3.out hil hb3 hne hs).mono ?_
    rintro e w4 he
    have hx2 : textF true x s.data.toList = textF true ⟨#[]⟩ s.data.toList := rfl
    have HX2 := Lib.hid hx2
    clear hx2
    cases h1 : textF true ⟨#[]⟩ s.data.toList with
    | none =>
      rw [h1] at he
      obtain ⟨rfl, hbad⟩ := he
      have H1 := Lib.hid h1
      have HBAD := Lib.hid (hbad.sofar T3.out)
      clear h1 hbad
      go_wp2_with fail
      refine ⟨rfl, ?_⟩
      rw [HX2.out, H1.out]
      exact ⟨rfl, HBAD.out⟩
    | some p =>
      obtain ⟨y, s'⟩ := p
      rw [h1] at he
      obtain ⟨rfl, hd⟩ := he
      have H1 := Lib.hid h1
      have HD := Lib.hid (hd.sofar T3.out)
      clear h1 hd
      go_wp2_with fail
      first | go_end0 | ((try simp only [Exit.inBlock, Exit.then]); refine bodyPost_ret (results_none rfl _ _ _) rfl ?_)
      rw [HX2.out, H1.out]
      exact ⟨rfl, HD.out⟩
  | false =>
    have hx' : x.size ≤ 1048576 := hx rfl
    clear hx
    go_enter Try.func74, Try.ntmps74
    go_wp2_with (first
      | ((with_reducible refine wpList_box_one 98 (.tmp 1) (.pointer (some ⟨b, i, none⟩)) rfl (some 3) ?hgd ?ho ?hd ?hx ?_); (case hgd => rfl); (case ho => rfl); (case hd => rfl); (case hx => rfl); (intro b3 w3 l3 B3 e3 z3); have PP3 := HP.out.below e3 (Nat.lt_of_lt_of_le HP.out.lt l3); have q3 := PP3.c1)
      | fail)
    have BB3 := HBL.out.below e3 (Nat.lt_of_lt_of_le HBL.out.lt l3)
    have c0 := PP3.c0
    have f0 := Blk.free PP3 0
    have v0 := B3.cell (i := 0) rfl
    have x0 := BB3.cell HI.out
    have HPP := Lib.hid PP3; have HB3 := Lib.hid BB3; have HV := Lib.hid B3
    have T3 : Hid (Turned [q, b] w w3) := Lib.hid (Turned.of_below e3 l3)
    have hb3 : b ≠ b3 := by have := HBL.out.lt; omega
    have hq3 : q ≠ b3 := by have := HP.out.lt; omega
    clear PP3 BB3 B3 e3 z3 q3
    have HPD : PartAt w3.drew q s false br := Blk.drew HPP.out
    have HVD := HV.out.drew
    have HBD := HB3.out.drew
    have TD := T3.out.drew
    go_region_with ((go_at_call 84; refine (otext_walk x _ (by omega)).mono ?_; rintro e wA ⟨r, rfl, tr, hbA⟩; have hr : r.size ≤ 1048580 := (by rw [tr.size, textL_length]; have e1 : x.data.toList.length = x.size := rfl; omega); have PA := HPD.below hbA HPP.out.lt; have cA := PA.c0; have fA := Blk.free PA 0; have vA := (HVD.below hbA HV.out.lt).cell (i := 0) rfl; have BA := HBD.below hbA HB3.out.lt; have xA := BA.cell HI.out; have TA := TD.trans (Turned.of_below hbA (Nat.le_refl _))))
    all_goals go_wp2_with fail
    all_goals (first | go_end0 | ((try simp only [Exit.inBlock, Exit.then]); refine bodyPost_ret (results_none rfl _ _ _) rfl ?_))
    all_goals refine ⟨rfl, ⟨_, (show Txt (s ++ r) _ from tr.extend), PA.set _⟩, ?_, TA.setCell (.inl (by simp)) 0 _⟩
    all_goals (show Blk _ b (cs.set i (.string x)) t; rw [set_self HI.out]; exact BA.set_other hne _)
end Go.Proofs.Ytkdplgcffdaoaaa
