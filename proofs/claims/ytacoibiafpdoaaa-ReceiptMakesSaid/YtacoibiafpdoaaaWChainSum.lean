/- Walk of ChainSum: for every two rows of sealed records the law returns true. No condition. -/
import Derived.Test.YtacoibiafpdoaaaG8
import Derived.Deep.RegionHeld3
import Derived.Deep.RegionWith
import Derived.Deep.DeepCutAuto
namespace Go.Proofs.Ytacoibiafpdoaaa
open Go Go.RowKit
set_option linter.unusedVariables false

/-- What is summed at place j. -/
def textAt (l : List Sld) (j : Nat) (x : Sld) : List UInt8 := sumT (l.take j) ++ x.tag.data.toList
/-- No two unlike texts of one sum up to k. -/
def noClash (a b : List Sld) (k : Nat) : Prop := ∀ (j : Nat) (x y : Sld), j < k → a[j]? = some x → b[j]? = some y → textAt a j x ≠ textAt b j y → sha (textAt a j x) ≠ sha (textAt b j y)
def tagsSame (a b : List Sld) (k : Nat) : Prop := ∀ (j : Nat) (x y : Sld), j < k → a[j]? = some x → b[j]? = some y → x.tag.data.toList = y.tag.data.toList
theorem sums_same {a b : List Sld} (k : Nat) (ha : k ≤ a.length) (hb : k ≤ b.length) (h : tagsSame a b k) : sumT (a.take k) = sumT (b.take k) := by
  induction k with
  | zero => rfl
  | succ k ih =>
    obtain ⟨x, hx⟩ : ∃ x, a[k]? = some x := ⟨_, List.getElem?_eq_getElem (by omega)⟩
    obtain ⟨y, hy⟩ : ∃ x, b[k]? = some x := ⟨_, List.getElem?_eq_getElem (by omega)⟩
    rw [sumT_take _ _ _ hx, sumT_take _ _ _ hy, ih (by omega) (by omega) (fun j x y hj => h j x y (by omega)), h k x y (by omega) hx hy]
theorem tags_of_sums {a b : List Sld} (k : Nat) (ha : k ≤ a.length) (hb : k ≤ b.length) (hn : noClash a b k) (h : sumT (a.take k) = sumT (b.take k)) : tagsSame a b k := by
  induction k with
  | zero => intro j x y hj; omega
  | succ k ih =>
    obtain ⟨x, hx⟩ : ∃ x, a[k]? = some x := ⟨_, List.getElem?_eq_getElem (by omega)⟩
    obtain ⟨y, hy⟩ : ∃ x, b[k]? = some x := ⟨_, List.getElem?_eq_getElem (by omega)⟩
    rw [sumT_take _ _ _ hx, sumT_take _ _ _ hy] at h
    have e : textAt a k x = textAt b k y := Decidable.byContradiction fun hne => hn k x y (by omega) hx hy hne h
    obtain ⟨e1, e2⟩ := List.append_inj e (by rw [sumT_length, sumT_length])
    have hi := ih (by omega) (by omega) (fun j x y hj => hn j x y (by omega)) e1
    intro j x' y' hj hx' hy'
    by_cases hjk : j = k
    · subst hjk
      rw [hx] at hx'; rw [hy] at hy'
      obtain rfl := Option.some.inj hx'
      obtain rfl := Option.some.inj hy'
      exact e2
    · exact hi j x' y' (by omega) hx' hy'

theorem SldRow.take {w : World} {g o n c : Nat} {l : List Sld} (h : SldRow w (.slice (some ⟨g, o, none⟩) n c) l) (hg : g < w.heap.size) (hn : n = l.length) (hc : n ≤ c) (hr : ∀ (j : Nat) (x : Sld), l[j]? = some x → w.rangeAt g (o + j * 9) x.cells) {k : Nat} (hk : k ≤ l.length) : SldRow w (.slice (some ⟨g, o, none⟩) k c) (l.take k) := by
  refine .inr ⟨g, o, c, by rw [List.length_take, Nat.min_eq_left hk], by rw [List.length_take]; omega, hg, fun j x hx => ?_⟩
  by_cases hj : j < k
  · rw [List.getElem?_take_of_lt hj] at hx; exact hr j x hx
  · rw [List.getElem?_eq_none (by rw [List.length_take]; omega)] at hx; simp at hx

/-- A row with at least one record. -/
structure SldAt (w : World) (g o n c : Nat) (l : List Sld) : Prop where
  len : n = l.length
  cap : n ≤ c
  lt : g < w.heap.size
  at_ : ∀ (j : Nat) (x : Sld), l[j]? = some x → w.rangeAt g (o + j * 9) x.cells
theorem SldAt.below {w w' : World} {g o n c : Nat} {l : List Sld} (h : SldAt w g o n c l) {B : Nat} (hb : Below B w w') (hB : w.heap.size ≤ B) : SldAt w' g o n c l :=
  ⟨h.len, h.cap, by have := hb.size; have := h.lt; omega, fun j x hx i u hu => by rw [hb.cell (by show g < B; have := h.lt; omega)]; exact h.at_ j x hx i u hu⟩
theorem SldAt.take {w : World} {g o n c : Nat} {l : List Sld} (h : SldAt w g o n c l) {k : Nat} (hk : k ≤ n) : SldRow w (.slice (some ⟨g, o, none⟩) k c) (l.take k) := by
  have h1 := h.len
  have h2 := h.cap
  refine .inr ⟨g, o, c, by rw [List.length_take, Nat.min_eq_left (by omega)], by rw [List.length_take]; omega, h.lt, fun j x hx => ?_⟩
  by_cases hj : j < k
  · rw [List.getElem?_take_of_lt hj] at hx; exact h.at_ j x hx
  · rw [List.getElem?_eq_none (by rw [List.length_take]; omega)] at hx; simp at hx
theorem SldAt.row {w : World} {g o n c : Nat} {l : List Sld} (h : SldAt w g o n c l) : SldRow w (.slice (some ⟨g, o, none⟩) n c) l := by
  have := h.take (k := n) (Nat.le_refl _)
  rwa [List.take_of_length_le (by have := h.len; omega)] at this

set_option maxRecDepth 100000 in
set_option maxHeartbeats 4000000 in
theorem chainSum_main (g o c g' o' c' n : Nat) (a b : List Sld) (w : World) (ha : SldAt w g o n c a) (hb : SldAt w g' o' n c' b) (hfa : fewS a = true) (hfb : fewS b = true) (hpos : 0 < n) :
    Calls Try.prog 11 #[.slice (some ⟨g, o, none⟩) n c, .slice (some ⟨g', o', none⟩) n c'] w fun e w' => e = .returned (.bool true) ∧ Below w.heap.size w w' := by
  have hlen : n ≤ 60 := by have := fewS_len hfa; have := ha.len; omega
  have HA := Lib.hid ha; clear ha
  have HB := Lib.hid hb; clear hb
  have HFA := Lib.hid hfa; clear hfa
  have HFB := Lib.hid hfb; clear hfb
  have hcap : (n : Int) ≤ c := by have := HA.out.cap; omega
  have hcap' : (n : Int) ≤ c' := by have := HB.out.cap; omega
  go_enter Try.func11, Try.ntmps11
  go_wp2_with fail
  refine (few20_walk _ a _ HA.out.row).mono ?_
  rintro e w1 ⟨rfl, hb1⟩
  rw [HFA.out]
  have HB1 := Lib.hid (HB.out.below hb1 (Nat.le_refl _))
  have HA1 := Lib.hid (HA.out.below hb1 (Nat.le_refl _))
  clear HA HB
  go_wp2_with fail
  refine (few20_walk _ b _ HB1.out.row).mono ?_
  rintro e w2 ⟨rfl, hb2⟩
  rw [HFB.out]
  have HA := Lib.hid (HA1.out.below hb2 (Nat.le_refl _))
  have HB := Lib.hid (HB1.out.below hb2 (Nat.le_refl _))
  have hbel2 := bt hb1 hb2
  clear HA1 HB1 hb1 hb2
  go_wp2_with fail
  go_loopw [5, 6, 28] (fun vs vf vi wr => ∃ (k : Nat) (same found : Bool), k ≤ n ∧ vi = .int .i64 k ∧ vs = .bool same ∧ vf = .bool found ∧ (same = true ↔ tagsSame a b k) ∧ (found = false → noClash a b k) ∧ Below w2.heap.size w2 wr) (fun _ _ vi _ => n - (intOf vi).toNat)
  case atStart => exact ⟨0, true, false, by omega, rfl, rfl, rfl, ⟨fun _ j x y hj => by omega, fun _ => rfl⟩, fun _ j x y hj => by omega, Below.refl _ _⟩
  case round =>
    obtain ⟨k, same, found, hk, rfl, rfl, rfl, hsame, hfound, hbel⟩ := hrel
    have HS := Lib.hid hsame; clear hsame
    have HF := Lib.hid hfound; clear hfound
    have HAr := Lib.hid (HA.out.below hbel (Nat.le_refl _))
    have HBr := Lib.hid (HB.out.below hbel (Nat.le_refl _))
    by_cases hlt : k < n
    · have hlt' : (k : Int) < n := by omega
      have h0 : (0 : Int) ≤ (k : Int) := by omega
      obtain ⟨x, hxk⟩ : ∃ r, a[k]? = some r := ⟨_, List.getElem?_eq_getElem (by rw [← HA.out.len]; exact hlt)⟩
      obtain ⟨y, hyk⟩ : ∃ r, b[k]? = some r := ⟨_, List.getElem?_eq_getElem (by rw [← HB.out.len]; exact hlt)⟩
      have cx := (HAr.out.at_ k x hxk) 8 _ rfl
      have cy := (HBr.out.at_ k y hyk) 8 _ rfl
      have sx := (fewS_each HFA.out k x hxk).1
      have sy := (fewS_each HFB.out k y hyk).1
      have HX := Lib.hid hxk; clear hxk
      have HY := Lib.hid hyk; clear hyk
      obtain ⟨xr, xt⟩ := x
      obtain ⟨yr, yt⟩ := y
      simp only at cx cy sx sy
      go_wp2_with fail
      go_cut [5] from 31 to 44 (fun v wc => ∃ s' : Bool, v = .bool s' ∧ (s' = true ↔ same = true ∧ xt.data.toList = yt.data.toList) ∧ ∃ nn, wc = wr.drewN nn)
      case first =>
        cases same with
        | false =>
          go_quiet (fail)
          go_wp2_with fail
          go_meet
          exact ⟨false, rfl, by simp, _, rfl⟩
        | true =>
          by_cases ht : xt.data.toList = yt.data.toList
          · have h1 : (xt.toList == yt.toList) = true := (Txt.self xt).same (Txt.self yt) ht
            go_quiet (fail)
            go_wp2_with fail
            go_meet
            exact ⟨true, rfl, by simp [ht], _, rfl⟩
          · have h1 : (xt.toList == yt.toList) = false := (Txt.self xt).other (Txt.self yt) ht
            go_quiet (fail)
            go_wp2_with fail
            go_meet
            exact ⟨false, rfl, by simp [ht], _, rfl⟩
      case rest =>
        clear cx cy
        obtain ⟨s', rfl, hs', nn, rfl⟩ := hcut
        obtain ⟨wd, hwd⟩ : ∃ wd, wd = wr.drewN nn := ⟨_, rfl⟩
        rw [← hwd]
        have hbd : Below wr.heap.size wr wd := by rw [hwd]; exact Below.drewN (Below.refl _ _) nn
        clear hwd
        have HAd := HAr.out.below hbd (Nat.le_refl _)
        have HBd := HBr.out.below hbd (Nat.le_refl _)
        have HA0 := Lib.hid (HAd.below (Below.refl _ _).drew (Nat.le_refl _))
        have HB0 := Lib.hid (HBd.below (Below.refl _ _).drew (Nat.le_refl _))
        have cx := (HAd.at_ k _ HX.out) 8 _ rfl
        have cy := (HBd.at_ k _ HY.out) 8 _ rfl
        simp only at cx cy
        clear HAd HBd
        have HS' := Lib.hid hs'; clear hs'
        have hta : ∀ (j : Nat) (x : Sld), (a.take k)[j]? = some x → x.tag.size ≤ 1048576 := fun j x hx => by
          by_cases hj : j < k
          · rw [List.getElem?_take_of_lt hj] at hx; have := (fewS_each HFA.out j x hx).1; omega
          · rw [List.getElem?_eq_none (by rw [List.length_take]; omega)] at hx; simp at hx
        have htb : ∀ (j : Nat) (x : Sld), (b.take k)[j]? = some x → x.tag.size ≤ 1048576 := fun j x hx => by
          by_cases hj : j < k
          · rw [List.getElem?_take_of_lt hj] at hx; have := (fewS_each HFB.out j x hx).1; omega
          · rw [List.getElem?_eq_none (by rw [List.length_take]; omega)] at hx; simp at hx
        have HTA := Lib.hid hta; clear hta
        have HTB := Lib.hid htb; clear htb
        have hkn : k ≤ n := by omega
        have hkc : (k : Int) ≤ c := by omega
        have hkc' : (k : Int) ≤ c' := by omega
        go_wp2_with fail
        go_cut [8, 9] from 45 to 64 (fun v8 v9 wc => ∃ s t : ByteArray, v8 = .string s ∧ v9 = .string t ∧ Txt s (textAt a k ⟨xr, xt⟩) ∧ Txt t (textAt b k ⟨yr, yt⟩) ∧ Below wd.heap.size wd wc)
        case first =>
          go_region_with ((first | (go_at_call_of 59 (Value.slice (some ⟨g, o, none⟩) k c); refine (csum_walk _ (a.take k) _ (by first | exact HA0.out.take hkn | exact (HA0.out.below hbB (Nat.le_refl _)).take hkn) (by rw [List.length_take]; omega) HTA.out).mono ?_; rintro e wA ⟨p, rfl, tp, hbA⟩; have szA := hbA.size; have a1A := hbA.cell (p := ⟨g, o + k * 9 + 8, none⟩) (by first | exact HA0.out.lt | exact Nat.lt_of_lt_of_le HA0.out.lt szB); have a2A := hbA.cell (p := ⟨g', o' + k * 9 + 8, none⟩) (by first | exact HB0.out.lt | exact Nat.lt_of_lt_of_le HB0.out.lt szB); have sp : p.size ≤ 32 := (by rw [tp.size, sumT_length]; omega)) | (go_at_call_of 59 (Value.slice (some ⟨g', o', none⟩) k c'); refine (csum_walk _ (b.take k) _ (by first | exact HB0.out.take hkn | exact (HB0.out.below hbA (Nat.le_refl _)).take hkn) (by rw [List.length_take]; omega) HTB.out).mono ?_; rintro e wB ⟨q, rfl, tq, hbB⟩; have szB := hbB.size; have a1B := hbB.cell (p := ⟨g, o + k * 9 + 8, none⟩) (by first | exact HA0.out.lt | exact Nat.lt_of_lt_of_le HA0.out.lt szA); have a2B := hbB.cell (p := ⟨g', o' + k * 9 + 8, none⟩) (by first | exact HB0.out.lt | exact Nat.lt_of_lt_of_le HB0.out.lt szA); have sq : q.size ≤ 32 := (by rw [tq.size, sumT_length]; omega))))
          all_goals go_wp2_with fail
          all_goals go_meet
          all_goals first
            | exact ⟨_, _, rfl, rfl, tp.append (Txt.self xt), tq.append (Txt.self yt), (Below.refl _ _).drew.trans (hbA.trans (hbB.mono hbA.size))⟩
            | exact ⟨_, _, rfl, rfl, tp.append (Txt.self xt), tq.append (Txt.self yt), (Below.refl _ _).drew.trans (hbB.trans (hbA.mono hbB.size))⟩
        case rest =>
          clear cx cy HA0 HB0
          obtain ⟨s, t, rfl, rfl, ts, tt, hbc⟩ := hcut
          have hbe := hbel.trans ((bt hbd hbc).mono hbel.size)
          clear hbd hbc hbel
          have hsn : s' = true ↔ tagsSame a b (k + 1) := by
            rw [HS'.out, HS.out]
            constructor
            · rintro ⟨h1, h2⟩ j x' y' hj hx' hy'
              by_cases hjk : j = k
              · subst hjk
                rw [HX.out] at hx'; rw [HY.out] at hy'
                obtain rfl := Option.some.inj hx'
                obtain rfl := Option.some.inj hy'
                exact h2
              · exact h1 j x' y' (by omega) hx' hy'
            · intro h
              exact ⟨fun j x' y' hj => h j x' y' (by omega), h k _ _ (by omega) HX.out HY.out⟩
          have HSN := Lib.hid hsn; clear hsn HS HS'
          have hstep : (textAt a k ⟨xr, xt⟩ ≠ textAt b k ⟨yr, yt⟩ → sha (textAt a k ⟨xr, xt⟩) ≠ sha (textAt b k ⟨yr, yt⟩)) → noClash a b k → noClash a b (k + 1) := by
            intro h1 h2 j x' y' hj hx' hy'
            by_cases hjk : j = k
            · subst hjk
              rw [HX.out] at hx'; rw [HY.out] at hy'
              obtain rfl := Option.some.inj hx'
              obtain rfl := Option.some.inj hy'
              exact h1
            · exact h2 j x' y' (by omega) hx' hy'
          have HST := Lib.hid hstep; clear hstep
          have sS : s.size ≤ 9032 := by
            rw [ts.size]; unfold textAt
            rw [List.length_append, sumT_length]
            have e : xt.data.toList.length = xt.size := rfl
            show 32 + xt.data.toList.length ≤ _
            omega
          have sT : t.size ≤ 9032 := by
            rw [tt.size]; unfold textAt
            rw [List.length_append, sumT_length]
            have e : yt.data.toList.length = yt.size := rfl
            show 32 + yt.data.toList.length ≤ _
            omega
          cases found with
          | true =>
            go_wp2_with fail
            go_roundw
            case rel => exact ⟨k + 1, s', true, by omega, by go_num, rfl, rfl, HSN.out, fun h => by simp at h, hbe⟩
            case measure => simp [intOf]; omega
          | false =>
            by_cases he : s.data.toList = t.data.toList
            · have h1 : (s.toList == t.toList) = true := (Txt.self s).same (Txt.self t) he
              have HE := Lib.hid he; clear he
              go_wp2_with fail
              go_roundw
              case rel =>
                refine ⟨k + 1, s', false, by omega, by go_num, rfl, rfl, HSN.out, fun _ => HST.out (fun hh => ?_) (HF.out (by trivial)), hbe⟩
                exact absurd (by rw [← show s.data.toList = _ from ts, ← show t.data.toList = _ from tt]; exact HE.out) hh
              case measure => simp [intOf]; omega
            · have h1 : (s.toList == t.toList) = false := (Txt.self s).other (Txt.self t) he
              have HE := Lib.hid he; clear he
              go_wp2_with fail
              refine (sum_one s _ _ (by omega)).mono ?_
              rintro e w5 ⟨u1, rfl, tu1, hb5⟩
              go_wp2_with fail
              refine (sum_one t _ _ (by omega)).mono ?_
              rintro e w6 ⟨u2, rfl, tu2, hb6⟩
              have hbf := hbe.trans ((bt hb5 hb6).mono hbe.size)
              clear hb5 hb6
              by_cases hu : u1.data.toList = u2.data.toList
              · have h2 : (u1.toList == u2.toList) = true := (Txt.self u1).same (Txt.self u2) hu
                clear hu
                go_wp2_with fail
                go_roundw
                case rel => exact ⟨k + 1, s', true, by omega, by go_num, rfl, rfl, HSN.out, fun h => by simp at h, hbf⟩
                case measure => simp [intOf]; omega
              · have h2 : (u1.toList == u2.toList) = false := (Txt.self u1).other (Txt.self u2) hu
                have HU := Lib.hid hu; clear hu
                go_wp2_with fail
                go_roundw
                case rel =>
                  refine ⟨k + 1, s', false, by omega, by go_num, rfl, rfl, HSN.out, fun _ => HST.out (fun _ hh => ?_) (HF.out (by trivial)), hbf⟩
                  refine HU.out ?_
                  rw [show u1.data.toList = _ from tu1, show u2.data.toList = _ from tu2, show s.data.toList = _ from ts, show t.data.toList = _ from tt]
                  exact hh
                case measure => simp [intOf]; omega
    · obtain rfl : k = n := by omega
      have la : a.take k = a := List.take_of_length_le (by have := HA.out.len; omega)
      have lb : b.take k = b := List.take_of_length_le (by have := HB.out.len; omega)
      have la' : k ≤ a.length := by have := HA.out.len; omega
      have lb' : k ≤ b.length := by have := HB.out.len; omega
      have LA := Lib.hid la; have LB := Lib.hid lb; have LA' := Lib.hid la'; have LB' := Lib.hid lb'
      clear la lb la' lb'
      have hta : ∀ (j : Nat) (x : Sld), a[j]? = some x → x.tag.size ≤ 1048576 := fun j x hx => by have := (fewS_each HFA.out j x hx).1; omega
      have htb : ∀ (j : Nat) (x : Sld), b[j]? = some x → x.tag.size ≤ 1048576 := fun j x hx => by have := (fewS_each HFB.out j x hx).1; omega
      have HTA := Lib.hid hta; clear hta
      have HTB := Lib.hid htb; clear htb
      cases same with
      | true =>
        have hs := sums_same k LA'.out LB'.out (HS.out.1 (by trivial))
        rw [LA.out, LB.out] at hs
        have HE := Lib.hid hs; clear hs
        go_wp2_with fail
        refine (csum_walk _ a _ HAr.out.row (by have := LA'.out; have := HA.out.len; omega) HTA.out).mono ?_
        rintro e w3 ⟨p, rfl, tp, hb3⟩
        have HB3 := Lib.hid (HBr.out.below hb3 (Nat.le_refl _))
        go_wp2_with fail
        refine (csum_walk _ b _ HB3.out.row (by have := LB'.out; have := HB.out.len; omega) HTB.out).mono ?_
        rintro e w4 ⟨q, rfl, tq, hb4⟩
        have h1 : (p.toList == q.toList) = true := tp.same tq HE.out
        go_wp2_with fail
        refine (alive20 _).mono ?_
        rintro e w5 ⟨rfl, hb5⟩
        go_wp2_with fail
        go_ret
        exact ⟨rfl, hbel2.trans ((hbel.trans ((bt hb3 (bt hb4 hb5)).mono hbel.size)).mono hbel2.size)⟩
      | false =>
        cases found with
        | true =>
          go_wp2_with fail
          refine (alive20 _).mono ?_
          rintro e w5 ⟨rfl, hb5⟩
          go_wp2_with fail
          go_ret
          exact ⟨rfl, hbel2.trans ((hbel.trans (hb5.mono hbel.size)).mono hbel2.size)⟩
        | false =>
          have hs : sumT a ≠ sumT b := fun hh => by
            have := tags_of_sums k LA'.out LB'.out (HF.out (by trivial)) (by rw [LA.out, LB.out]; exact hh)
            have := HS.out.2 this
            simp at this
          have HE := Lib.hid hs; clear hs
          go_wp2_with fail
          refine (csum_walk _ a _ HAr.out.row (by have := LA'.out; have := HA.out.len; omega) HTA.out).mono ?_
          rintro e w3 ⟨p, rfl, tp, hb3⟩
          have HB3 := Lib.hid (HBr.out.below hb3 (Nat.le_refl _))
          go_wp2_with fail
          refine (csum_walk _ b _ HB3.out.row (by have := LB'.out; have := HB.out.len; omega) HTB.out).mono ?_
          rintro e w4 ⟨q, rfl, tq, hb4⟩
          have h1 : (p.toList == q.toList) = false := tp.other tq HE.out
          go_wp2_with fail
          refine (alive20 _).mono ?_
          rintro e w5 ⟨rfl, hb5⟩
          go_wp2_with fail
          go_ret
          exact ⟨rfl, hbel2.trans ((hbel.trans ((bt hb3 (bt hb4 hb5)).mono hbel.size)).mono hbel2.size)⟩

set_option maxRecDepth 100000 in
set_option maxHeartbeats 4000000 in
/-- The walk of the law: no condition but the rows' shape. -/
theorem chainSum_walk (va vb : Value) (a b : List Sld) (w : World) (ha : SldRow w va a) (hb : SldRow w vb b) :
    Calls Try.prog 11 #[va, vb] w fun e w' => e = .returned (.bool true) ∧ Below w.heap.size w w' := by
  obtain ⟨p, c, rfl⟩ := ha.shape
  obtain ⟨p', c', rfl⟩ := hb.shape
  by_cases hgo : fewS a = true ∧ fewS b = true ∧ a.length = b.length ∧ 0 < a.length
  · obtain ⟨h1, h2, h3, h4⟩ := hgo
    rcases ha with ⟨rfl, _⟩ | ⟨g, o, c0, he, hcap, hg, hc⟩
    · simp at h4
    rcases hb with ⟨rfl, _⟩ | ⟨g', o', c0', he', hcap', hg', hc'⟩
    · rw [h3] at h4; simp at h4
    obtain ⟨rfl, -, rfl⟩ : p = some ⟨g, o, none⟩ ∧ True ∧ c = c0 := by simpa using he
    obtain ⟨rfl, -, rfl⟩ : p' = some ⟨g', o', none⟩ ∧ True ∧ c' = c0' := by simpa using he'
    rw [← h3]
    exact chainSum_main g o c g' o' c' a.length a b w ⟨rfl, hcap, hg, hc⟩ ⟨h3, by omega, hg', hc'⟩ h1 h2 h4
  · have HA := Lib.hid ha; clear ha
    have HB := Lib.hid hb; clear hb
    by_cases hfa : fewS a = true
    · by_cases hfb : fewS b = true
      · by_cases hl : a.length = b.length
        · have h0 : a.length = 0 := by by_cases h : 0 < a.length; exact absurd ⟨hfa, hfb, hl, h⟩ hgo; omega
          obtain rfl : a = [] := List.length_eq_zero_iff.1 h0
          obtain rfl : b = [] := List.length_eq_zero_iff.1 (by rw [← hl]; rfl)
          clear hgo hl h0
          have HFA := Lib.hid hfa; clear hfa
          have HFB := Lib.hid hfb; clear hfb
          go_enter Try.func11, Try.ntmps11
          go_wp2_with fail
          refine (few20_walk _ [] _ HA.out).mono ?_
          rintro e w1 ⟨rfl, hb1⟩
          rw [HFA.out]
          have HB1 := Lib.hid (HB.out.below hb1 (Nat.le_refl _))
          have HA1 := Lib.hid (HA.out.below hb1 (Nat.le_refl _))
          go_wp2_with fail
          refine (few20_walk _ [] _ HB1.out).mono ?_
          rintro e w2 ⟨rfl, hb2⟩
          rw [HFB.out]
          have HA2 := Lib.hid (HA1.out.below hb2 (Nat.le_refl _))
          have HB2 := Lib.hid (HB1.out.below hb2 (Nat.le_refl _))
          have hbel2 := bt hb1 hb2
          go_wp2_with fail
          go_loopw [5, 6, 28] (fun vs vf vi wr => vs = .bool true ∧ vf = .bool false ∧ vi = .int .i64 0 ∧ Below w2.heap.size w2 wr) (fun _ _ vi _ => 0)
          case atStart => exact ⟨rfl, rfl, rfl, Below.refl _ _⟩
          case round =>
            obtain ⟨rfl, rfl, rfl, hbel⟩ := hrel
            have HAr := Lib.hid (HA2.out.below hbel (Nat.le_refl _))
            have HBr := Lib.hid (HB2.out.below hbel (Nat.le_refl _))
            go_wp2_with fail
            refine (csum_walk _ [] _ HAr.out (by simp) (fun j x h => by simp at h)).mono ?_
            rintro e w3 ⟨p, rfl, tp, hb3⟩
            have HB3 := Lib.hid (HBr.out.below hb3 (Nat.le_refl _))
            go_wp2_with fail
            refine (csum_walk _ [] _ HB3.out (by simp) (fun j x h => by simp at h)).mono ?_
            rintro e w4 ⟨q, rfl, tq, hb4⟩
            have h1 : (p.toList == q.toList) = true := tp.same tq rfl
            go_wp2_with fail
            refine (alive20 _).mono ?_
            rintro e w5 ⟨rfl, hb5⟩
            go_wp2_with fail
            go_ret
            exact ⟨rfl, hbel2.trans ((hbel.trans ((bt hb3 (bt hb4 hb5)).mono hbel.size)).mono hbel2.size)⟩
        · have hl' : ¬ ((a.length : Int) = (b.length : Int)) := by omega
          have HFA := Lib.hid hfa; clear hfa hgo hl
          have HFB := Lib.hid hfb; clear hfb
          go_enter Try.func11, Try.ntmps11
          go_wp2_with fail
          refine (few20_walk _ a _ HA.out).mono ?_
          rintro e w1 ⟨rfl, hb1⟩
          rw [HFA.out]
          have HB1 := Lib.hid (HB.out.below hb1 (Nat.le_refl _))
          go_wp2_with fail
          refine (few20_walk _ b _ HB1.out).mono ?_
          rintro e w2 ⟨rfl, hb2⟩
          rw [HFB.out]
          go_wp2_with fail
          refine (alive20 _).mono ?_
          rintro e w5 ⟨rfl, hb5⟩
          go_wp2_with fail
          go_ret
          exact ⟨rfl, bt hb1 (bt hb2 hb5)⟩
      · have hfb' : fewS b = false := by simpa using hfb
        have HFA := Lib.hid hfa; clear hfa hgo hfb
        have HFB := Lib.hid hfb'; clear hfb'
        go_enter Try.func11, Try.ntmps11
        go_wp2_with fail
        refine (few20_walk _ a _ HA.out).mono ?_
        rintro e w1 ⟨rfl, hb1⟩
        rw [HFA.out]
        have HB1 := Lib.hid (HB.out.below hb1 (Nat.le_refl _))
        go_wp2_with fail
        refine (few20_walk _ b _ HB1.out).mono ?_
        rintro e w2 ⟨rfl, hb2⟩
        rw [HFB.out]
        go_wp2_with fail
        refine (alive20 _).mono ?_
        rintro e w5 ⟨rfl, hb5⟩
        go_wp2_with fail
        go_ret
        exact ⟨rfl, bt hb1 (bt hb2 hb5)⟩
    · have hfa' : fewS a = false := by simpa using hfa
      have HFA := Lib.hid hfa'; clear hfa hgo hfa'
      go_enter Try.func11, Try.ntmps11
      go_wp2_with fail
      refine (few20_walk _ a _ HA.out).mono ?_
      rintro e w1 ⟨rfl, hb1⟩
      rw [HFA.out]
      go_wp2_with fail
      refine (alive20 _).mono ?_
      rintro e w5 ⟨rfl, hb5⟩
      go_wp2_with fail
      go_ret
      exact ⟨rfl, bt hb1 hb5⟩
theorem chainSum_law (va : Value) (a : List Sld) (vb : Value) (b : List Sld) (w : World) (ha : SldsIn w va a) (hb : SldsIn w vb b) :
    Calls Try.prog 11 #[va, vb] w fun e w' => e = .returned (.bool true) ∧ Below w.heap.size w w' := chainSum_walk va vb a b w ha.row hb.row
end Go.Proofs.Ytacoibiafpdoaaa
