/- Walk of DeriveApart: for every master, two labels and two rows of numbers the law returns true. No condition. -/
import Derived.Test.YtacoibiafpdoaaaWDeriveKeys
import Derived.Test.YtacoibiafpdoaaaRows1
namespace Go.Proofs.Ytacoibiafpdoaaa
open Go Go.RowKit
set_option linter.unusedVariables false

theorem toNat_inj {l m : List Int} (hl : ∀ n ∈ l, 0 ≤ n) (hm : ∀ n ∈ m, 0 ≤ n) (e : l.map Int.toNat = m.map Int.toNat) : l = m := by
  have h : ∀ l : List Int, (∀ n ∈ l, 0 ≤ n) → (l.map Int.toNat).map (fun n : Nat => (n : Int)) = l := by
    intro l hl
    rw [List.map_map]
    conv => rhs; rw [← List.map_id l]
    exact List.map_congr_left fun x hx => Int.toNat_of_nonneg (hl x hx)
  rw [← h l hl, ← h m hm, e]

theorem toNat_lt {l : List Int} (h : ∀ (j : Nat) (x : Int), l[j]? = some x → x < 9223372036854775808) : ∀ n ∈ l.map Int.toNat, n < 256 ^ 8 := by
  intro n hn
  obtain ⟨x, hx, rfl⟩ := List.mem_map.1 hn
  obtain ⟨j, hj⟩ := List.mem_iff_getElem?.1 hx
  have := h j x hj
  show x.toNat < 18446744073709551616
  omega

/-- Unlike labels or numbers are said unlike, none as the beginning of another one. -/
theorem said_apart {a b : List UInt8} {l m : List Int} (ha : saidOk a l = true) (hb : saidOk b m = true) (hl : ∀ (j : Nat) (x : Int), l[j]? = some x → x < 9223372036854775808)
    (hm : ∀ (j : Nat) (x : Int), m[j]? = some x → x < 9223372036854775808) {x y : List UInt8} (e : saidL a (l.map Int.toNat) ++ x = saidL b (m.map Int.toNat) ++ y) : a = b ∧ l = m := by
  obtain ⟨a1, a2, _, a3⟩ := saidOk_len ha
  obtain ⟨b1, b2, _, b3⟩ := saidOk_len hb
  obtain ⟨e1, e2⟩ := saidL_prefix a1 b1 (by simpa using a2) (by simpa using b2) (toNat_lt hl) (toNat_lt hm) e
  exact ⟨e1, toNat_inj a3 b3 e2⟩

theorem take_apart {s t : List UInt8} (h : ∀ x y, s ++ x ≠ t ++ y) (n : Nat) (hn : n = min s.length t.length) : s.take n ≠ t.take n := by
  intro e
  rcases Nat.le_total s.length t.length with hl | hl
  · refine h (t.drop n) [] ?_
    rw [List.append_nil, show s = t.take n by rw [← e, List.take_of_length_le (by omega)], List.take_append_drop]
  · refine h [] (s.drop n) ?_
    rw [List.append_nil, show t = s.take n by rw [e, List.take_of_length_le (by omega)], List.take_append_drop]

set_option maxHeartbeats 1000000 in
theorem deriveApart_both (master a b : ByteArray) (v u : Value) (xs ys : List Int) (w : World) (h : IntsIn w v xs) (k : IntsIn w u ys) (d1 : (master.size : Int) ≤ 200) (d2 : (xs.length : Int) ≤ 100) (d3 : (ys.length : Int) ≤ 100)
    (hok : saidOk a.data.toList xs = true) (kok : saidOk b.data.toList ys = true) :
    Calls Try.prog 10 #[.string master, .string a, .string b, v, u] w fun e w' => e = .returned (.bool true) ∧ Below w.heap.size w w' := by
  obtain ⟨p, c, rfl⟩ := h.cases
  obtain ⟨p', c', rfl⟩ := k.cases
  have hx : ∀ (j : Nat) (x : Int), xs[j]? = some x → x < 9223372036854775808 := fun j x hh => by have := (h.fits j x hh).2; omega
  have kx : ∀ (j : Nat) (x : Int), ys[j]? = some x → x < 9223372036854775808 := fun j x hh => by have := (k.fits j x hh).2; omega
  have H := Lib.hid h; clear h
  have K := Lib.hid k; clear k
  have HX := Lib.hid hx; clear hx
  have KX := Lib.hid kx; clear kx
  have HO := Lib.hid hok; clear hok
  have KO := Lib.hid kok; clear kok
  by_cases hab : a.data.toList = b.data.toList
  · have e1 : (a.toList == b.toList) = true := (Txt.self a).same (Txt.self b) hab
    have HA := Lib.hid hab; clear hab
    by_cases hxy : xs = ys
    · have HXY := Lib.hid hxy; clear hxy
      go_enter Try.func10, Try.ntmps10
      go_wp2_with fail
      refine (said_walk a _ xs _ H.out.row HX.out (by omega)).mono ?_
      rintro e w1 ⟨⟨_, r, rfl, tr⟩ | ⟨hno, _⟩, hb1⟩
      rotate_left
      · rw [HO.out] at hno; exact absurd hno (by decide)
      have H1 := Lib.hid (H.out.below hb1 (Nat.le_refl _)); clear H
      have K1 := Lib.hid (K.out.below hb1 (Nat.le_refl _)); clear K
      go_wp2_with fail
      refine (said_walk b _ ys _ K1.out.row KX.out (by omega)).mono ?_
      rintro e w2 ⟨⟨_, q, rfl, tq⟩ | ⟨hno, _⟩, hb2⟩
      rotate_left
      · rw [KO.out] at hno; exact absurd hno (by decide)
      have H2 := Lib.hid (H1.out.below hb2 (Nat.le_refl _)); clear H1
      have K2 := Lib.hid (K1.out.below hb2 (Nat.le_refl _)); clear K1
      go_wp2_with fail
      refine (ints01_walk _ _ xs ys _ H2.out K2.out (by omega) (by omega)).mono ?_
      rintro e w3 ⟨rfl, hb3⟩
      have H3 := Lib.hid (H2.out.below hb3 (Nat.le_refl _)); clear H2
      have K3 := Lib.hid (K2.out.below hb3 (Nat.le_refl _)); clear K2
      rw [decide_eq_true HXY.out]
      have er : r = q := tr.eq (tq.cast (by rw [HA.out, HXY.out]))
      subst er
      go_wp2_with fail
      go_quiet (fail)
      go_wp2_with fail
      have hg1 := HO.out
      refine (key_walk master a _ xs _ (by omega) (H3.out.row.below (Below.drewN (Below.refl _ _) _) (Nat.le_refl _)) HX.out (by omega)).mono ?_
      rintro e w4 ⟨⟨_, j, rfl, tj⟩ | ⟨hno, _⟩, hb4⟩
      rotate_left
      · rw [HO.out] at hno; exact absurd hno (by decide)
      clear hg1
      have hb4' := bt (Below.drewN (Below.refl _ _) _) hb4
      clear hb4
      have K4 := Lib.hid (K3.out.below hb4' (Nat.le_refl _)); clear K3
      go_wp2_with fail
      refine (key_walk master b _ ys _ (by omega) K4.out.row KX.out (by omega)).mono ?_
      rintro e w5 ⟨⟨_, k, rfl, tk⟩ | ⟨hno, _⟩, hb5⟩
      rotate_left
      · rw [KO.out] at hno; exact absurd hno (by decide)
      have sr : r.size ≤ 85 := by rw [tr.size, saidL_length, List.length_map]; have := saidOk_len HO.out; omega
      have hjk : (j.toList == k.toList) = true := tj.same tk (by rw [HA.out, HXY.out])
      go_wp2_with fail
      refine (clash_one master r master r _ (by omega) (by omega) (by omega) (by omega) rfl rfl rfl).mono ?_
      rintro e w6 ⟨rfl, hb6⟩
      go_wp2_with fail
      refine (alive04 _).mono ?_
      rintro e w7 ⟨rfl, hb7⟩
      go_wp2_with fail
      go_ret
      exact ⟨rfl, bt hb1 (bt hb2 (bt hb3 (bt hb4' (bt hb5 (bt hb6 hb7)))))⟩
    · have HXY := Lib.hid hxy; clear hxy
      go_enter Try.func10, Try.ntmps10
      go_wp2_with fail
      refine (said_walk a _ xs _ H.out.row HX.out (by omega)).mono ?_
      rintro e w1 ⟨⟨_, r, rfl, tr⟩ | ⟨hno, _⟩, hb1⟩
      rotate_left
      · rw [HO.out] at hno; exact absurd hno (by decide)
      have H1 := Lib.hid (H.out.below hb1 (Nat.le_refl _)); clear H
      have K1 := Lib.hid (K.out.below hb1 (Nat.le_refl _)); clear K
      go_wp2_with fail
      refine (said_walk b _ ys _ K1.out.row KX.out (by omega)).mono ?_
      rintro e w2 ⟨⟨_, q, rfl, tq⟩ | ⟨hno, _⟩, hb2⟩
      rotate_left
      · rw [KO.out] at hno; exact absurd hno (by decide)
      have H2 := Lib.hid (H1.out.below hb2 (Nat.le_refl _)); clear H1
      have K2 := Lib.hid (K1.out.below hb2 (Nat.le_refl _)); clear K1
      go_wp2_with fail
      refine (ints01_walk _ _ xs ys _ H2.out K2.out (by omega) (by omega)).mono ?_
      rintro e w3 ⟨rfl, hb3⟩
      have H3 := Lib.hid (H2.out.below hb3 (Nat.le_refl _)); clear H2
      have K3 := Lib.hid (K2.out.below hb3 (Nat.le_refl _)); clear K2
      rw [decide_eq_false HXY.out]
      go_wp2_with fail
      have HN : Hid (∀ x y, saidL a.data.toList (xs.map Int.toNat) ++ x ≠ saidL b.data.toList (ys.map Int.toNat) ++ y) := Lib.hid fun x y e => HXY.out (said_apart HO.out KO.out HX.out KX.out e).2
      have sr : r.size ≤ 85 := by rw [tr.size, saidL_length, List.length_map]; have := saidOk_len HO.out; omega
      have sq : q.size ≤ 85 := by rw [tq.size, saidL_length, List.length_map]; have := saidOk_len KO.out; omega
      obtain ⟨n, Hn⟩ : ∃ n, Hid (n = min r.size q.size) := ⟨_, rfl⟩
      rw [show min (r.size : Int) (q.size : Int) = (n : Int) by rw [Hn.out]; omega]
      have n1 : n ≤ r.size := by rw [Hn.out]; omega
      have n2 : n ≤ q.size := by rw [Hn.out]; omega
      have c1 : (r.toList == q.toList) = false := tr.other tq (by have := HN.out [] []; simpa using this)
      have c2 : ((r.extract 0 n).toList == (q.extract 0 n).toList) = false := by
        refine (tr.extract 0 n).other (tq.extract 0 n) ?_
        rw [List.drop_zero, List.drop_zero]
        exact take_apart HN.out n (by rw [Hn.out, tr.size, tq.size])
      go_quiet (fail)
      go_wp2_with fail
      refine (key_walk master a _ xs _ (by omega) (H3.out.row.below (Below.drewN (Below.refl _ _) _) (Nat.le_refl _)) HX.out (by omega)).mono ?_
      rintro e w4 ⟨⟨_, j, rfl, tj⟩ | ⟨hno, _⟩, hb4⟩
      rotate_left
      · rw [HO.out] at hno; exact absurd hno (by decide)
      have hb4' := bt (Below.drewN (Below.refl _ _) _) hb4
      clear hb4
      have K4 := Lib.hid (K3.out.below hb4' (Nat.le_refl _)); clear K3
      go_wp2_with fail
      refine (key_walk master b _ ys _ (by omega) K4.out.row KX.out (by omega)).mono ?_
      rintro e w5 ⟨⟨_, k, rfl, tk⟩ | ⟨hno, _⟩, hb5⟩
      rotate_left
      · rw [KO.out] at hno; exact absurd hno (by decide)
      rw [← show r.data.toList = _ from tr] at tj
      rw [← show q.data.toList = _ from tq] at tk
      have hne : r.data.toList ≠ q.data.toList := by
        rw [show r.data.toList = _ from tr, show q.data.toList = _ from tq]
        have := HN.out [] []; simpa using this
      have HE := Lib.hid hne; clear hne
      by_cases hm : mac master.data.toList r.data.toList = mac master.data.toList q.data.toList
      · have hjk : (j.toList == k.toList) = true := tj.same tk hm
        have HM := Lib.hid hm; clear hm
        go_wp2_with fail
        refine (clash_told master r master q _ (by omega) (by omega) (by omega) (by omega) HM.out (.inr HE.out)).mono ?_
        rintro e w6 ⟨⟨_, _, _, _, rfl, _⟩, hb6⟩
        go_wp2_with fail
        refine (alive04 _).mono ?_
        rintro e w7 ⟨rfl, hb7⟩
        go_wp2_with fail
        go_ret
        exact ⟨rfl, bt hb1 (bt hb2 (bt hb3 (bt hb4' (bt hb5 (bt hb6 hb7)))))⟩
      · have hjk : (j.toList == k.toList) = false := tj.other tk hm
        have HM := Lib.hid hm; clear hm
        go_wp2_with fail
        refine (clash_unlike master r master q _ (by omega) (by omega) (by omega) (by omega) HM.out).mono ?_
        rintro e w6 ⟨rfl, hb6⟩
        go_wp2_with fail
        refine (alive04 _).mono ?_
        rintro e w7 ⟨rfl, hb7⟩
        go_wp2_with fail
        go_ret
        exact ⟨rfl, bt hb1 (bt hb2 (bt hb3 (bt hb4' (bt hb5 (bt hb6 hb7)))))⟩
  · have e1 : (a.toList == b.toList) = false := (Txt.self a).other (Txt.self b) hab
    have HAB := Lib.hid hab; clear hab
    go_enter Try.func10, Try.ntmps10
    go_wp2_with fail
    refine (said_walk a _ xs _ H.out.row HX.out (by omega)).mono ?_
    rintro e w1 ⟨⟨_, r, rfl, tr⟩ | ⟨hno, _⟩, hb1⟩
    rotate_left
    · rw [HO.out] at hno; exact absurd hno (by decide)
    have H1 := Lib.hid (H.out.below hb1 (Nat.le_refl _)); clear H
    have K1 := Lib.hid (K.out.below hb1 (Nat.le_refl _)); clear K
    go_wp2_with fail
    refine (said_walk b _ ys _ K1.out.row KX.out (by omega)).mono ?_
    rintro e w2 ⟨⟨_, q, rfl, tq⟩ | ⟨hno, _⟩, hb2⟩
    rotate_left
    · rw [KO.out] at hno; exact absurd hno (by decide)
    have H2 := Lib.hid (H1.out.below hb2 (Nat.le_refl _)); clear H1
    have K2 := Lib.hid (K1.out.below hb2 (Nat.le_refl _)); clear K1
    go_wp2_with fail
    have HN : Hid (∀ x y, saidL a.data.toList (xs.map Int.toNat) ++ x ≠ saidL b.data.toList (ys.map Int.toNat) ++ y) := Lib.hid fun x y e => HAB.out (said_apart HO.out KO.out HX.out KX.out e).1
    have sr : r.size ≤ 85 := by rw [tr.size, saidL_length, List.length_map]; have := saidOk_len HO.out; omega
    have sq : q.size ≤ 85 := by rw [tq.size, saidL_length, List.length_map]; have := saidOk_len KO.out; omega
    obtain ⟨n, Hn⟩ : ∃ n, Hid (n = min r.size q.size) := ⟨_, rfl⟩
    rw [show min (r.size : Int) (q.size : Int) = (n : Int) by rw [Hn.out]; omega]
    have n1 : n ≤ r.size := by rw [Hn.out]; omega
    have n2 : n ≤ q.size := by rw [Hn.out]; omega
    have c1 : (r.toList == q.toList) = false := tr.other tq (by have := HN.out [] []; simpa using this)
    have c2 : ((r.extract 0 n).toList == (q.extract 0 n).toList) = false := by
      refine (tr.extract 0 n).other (tq.extract 0 n) ?_
      rw [List.drop_zero, List.drop_zero]
      exact take_apart HN.out n (by rw [Hn.out, tr.size, tq.size])
    go_quiet (fail)
    go_wp2_with fail
    refine (key_walk master a _ xs _ (by omega) (H2.out.row.below (Below.drewN (Below.refl _ _) _) (Nat.le_refl _)) HX.out (by omega)).mono ?_
    rintro e w4 ⟨⟨_, j, rfl, tj⟩ | ⟨hno, _⟩, hb4⟩
    rotate_left
    · rw [HO.out] at hno; exact absurd hno (by decide)
    have hb4' := bt (Below.drewN (Below.refl _ _) _) hb4
    clear hb4
    have K4 := Lib.hid (K2.out.below hb4' (Nat.le_refl _)); clear K2
    go_wp2_with fail
    refine (key_walk master b _ ys _ (by omega) K4.out.row KX.out (by omega)).mono ?_
    rintro e w5 ⟨⟨_, k, rfl, tk⟩ | ⟨hno, _⟩, hb5⟩
    rotate_left
    · rw [KO.out] at hno; exact absurd hno (by decide)
    rw [← show r.data.toList = _ from tr] at tj
    rw [← show q.data.toList = _ from tq] at tk
    have hne : r.data.toList ≠ q.data.toList := by
      rw [show r.data.toList = _ from tr, show q.data.toList = _ from tq]
      have := HN.out [] []; simpa using this
    have HE := Lib.hid hne; clear hne
    by_cases hm : mac master.data.toList r.data.toList = mac master.data.toList q.data.toList
    · have hjk : (j.toList == k.toList) = true := tj.same tk hm
      have HM := Lib.hid hm; clear hm
      go_wp2_with fail
      refine (clash_told master r master q _ (by omega) (by omega) (by omega) (by omega) HM.out (.inr HE.out)).mono ?_
      rintro e w6 ⟨⟨_, _, _, _, rfl, _⟩, hb6⟩
      go_wp2_with fail
      refine (alive04 _).mono ?_
      rintro e w7 ⟨rfl, hb7⟩
      go_wp2_with fail
      go_ret
      exact ⟨rfl, bt hb1 (bt hb2 (bt hb4' (bt hb5 (bt hb6 hb7))))⟩
    · have hjk : (j.toList == k.toList) = false := tj.other tk hm
      have HM := Lib.hid hm; clear hm
      go_wp2_with fail
      refine (clash_unlike master r master q _ (by omega) (by omega) (by omega) (by omega) HM.out).mono ?_
      rintro e w6 ⟨rfl, hb6⟩
      go_wp2_with fail
      refine (alive04 _).mono ?_
      rintro e w7 ⟨rfl, hb7⟩
      go_wp2_with fail
      go_ret
      exact ⟨rfl, bt hb1 (bt hb2 (bt hb4' (bt hb5 (bt hb6 hb7))))⟩

set_option maxHeartbeats 1000000 in
theorem deriveApart_walk (master a b : ByteArray) (v : Value) (xs : List Int) (u : Value) (ys : List Int) (w : World) (h : IntsIn w v xs) (k : IntsIn w u ys) :
    Calls Try.prog 10 #[.string master, .string a, .string b, v, u] w fun e w' => e = .returned (.bool true) ∧ Below w.heap.size w w' := by
  by_cases c1 : 200 < master.size
  · obtain ⟨p, c, rfl⟩ := h.cases
    obtain ⟨p', c', rfl⟩ := k.cases
    clear h k
    have d1 : (200 : Int) < master.size := by omega
    go_enter Try.func10, Try.ntmps10
    go_wp2_with fail
    refine (alive04 _).mono ?_
    rintro e w1 ⟨rfl, hb1⟩
    go_wp2_with fail
    go_ret
    exact ⟨rfl, hb1⟩
  have d1 : (master.size : Int) ≤ 200 := by omega
  by_cases c2 : 100 < xs.length
  · obtain ⟨p, c, rfl⟩ := h.cases
    obtain ⟨p', c', rfl⟩ := k.cases
    clear h k
    have d2 : (100 : Int) < xs.length := by omega
    go_enter Try.func10, Try.ntmps10
    go_wp2_with fail
    refine (alive04 _).mono ?_
    rintro e w1 ⟨rfl, hb1⟩
    go_wp2_with fail
    go_ret
    exact ⟨rfl, hb1⟩
  have d2 : (xs.length : Int) ≤ 100 := by omega
  by_cases c3 : 100 < ys.length
  · obtain ⟨p, c, rfl⟩ := h.cases
    obtain ⟨p', c', rfl⟩ := k.cases
    clear h k
    have d3 : (100 : Int) < ys.length := by omega
    go_enter Try.func10, Try.ntmps10
    go_wp2_with fail
    refine (alive04 _).mono ?_
    rintro e w1 ⟨rfl, hb1⟩
    go_wp2_with fail
    go_ret
    exact ⟨rfl, hb1⟩
  have d3 : (ys.length : Int) ≤ 100 := by omega
  clear c1 c2 c3
  by_cases c4 : saidOk a.data.toList xs = true ∧ saidOk b.data.toList ys = true
  · exact deriveApart_both master a b v u xs ys w h k d1 d2 d3 c4.1 c4.2
  have hx : ∀ (j : Nat) (x : Int), xs[j]? = some x → x < 9223372036854775808 := fun j x hh => by have := (h.fits j x hh).2; omega
  have kx : ∀ (j : Nat) (x : Int), ys[j]? = some x → x < 9223372036854775808 := fun j x hh => by have := (k.fits j x hh).2; omega
  obtain ⟨p, c, rfl⟩ := h.cases
  obtain ⟨p', c', rfl⟩ := k.cases
  have H := Lib.hid h; clear h
  have K := Lib.hid k; clear k
  have HX := Lib.hid hx; clear hx
  have KX := Lib.hid kx; clear kx
  have HO := Lib.hid c4; clear c4
  go_enter Try.func10, Try.ntmps10
  go_wp2_with fail
  refine (said_walk a _ xs _ H.out.row HX.out (by omega)).mono ?_
  rintro e w1 ⟨⟨h1, r, rfl, tr⟩ | ⟨h1, rfl⟩, hb1⟩
  all_goals
    have HO1 := Lib.hid h1; clear h1
    have K1 := Lib.hid (K.out.below hb1 (Nat.le_refl _)); clear K
    go_wp2_with fail
    refine (said_walk b _ ys _ K1.out.row KX.out (by omega)).mono ?_
    rintro e w2 ⟨⟨h2, q, rfl, tq⟩ | ⟨h2, rfl⟩, hb2⟩
    all_goals
      first
      | (have hh := HO.out; rw [HO1.out, h2] at hh; simp at hh; done)
      | (clear h2
         go_wp2_with fail
         refine (alive04 _).mono ?_
         rintro e w3 ⟨rfl, hb3⟩
         go_wp2_with fail
         go_ret
         exact ⟨rfl, bt hb1 (bt hb2 hb3)⟩)
end Go.Proofs.Ytacoibiafpdoaaa
