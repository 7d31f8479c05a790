/- Walk of ChainSeals: for every root, first epoch, sealed records, place and tag the law returns true. No condition. -/
import Derived.Test.YtmiikdkdccheeaaSeal2
import Derived.Test.YtmiikdkdccheeaaSeal3
import Derived.Test.YtmiikdkdccheeaaG8
namespace Go.Proofs.Ytmiikdkdccheeaa
set_option linter.unusedSimpArgs false
set_option linter.unusedVariables false
open Go Go.RowKit
set_option linter.unusedVariables false

theorem checkS_of {root : ByteArray} {first : Int} {l : List Sld} {R : List Rec} (hR : l.map Sld.r = R) (h : SealOk root first R) : checkS root first l = match badTag root.data.toList first.toNat l with
    | some k => (match l[k]? with | some x => x.r.epoch | none => 0, (k : Int), 15)
    | none => (first + (closes R : Int), (R.length : Int), 0) := by
  subst hR
  obtain ⟨g1, g2, _⟩ := follow_ok _ _ _ _ h.follow
  unfold checkS
  rw [if_neg (by have := h.root; have := h.first0; have := h.first1; omega), if_neg (by rw [h.follow]; simp), h.near, g1, g2]
  cases badTag root.data.toList first.toNat l with
  | none => simp
  | some k => rfl
theorem seal_checks {root : ByteArray} {first : Int} {R : List Rec} (h : SealOk root first R) : checkS root first (sealTo root.data.toList first.toNat R R.length) = (first + (closes R : Int), (R.length : Int), 0) := by
  rw [checkS_of (sealTo_recs _ _ _) h, badTag_none.2]
  intro k x hx
  have hk := (List.getElem?_eq_some_iff.1 hx).1
  rw [sealTo_length] at hk
  rw [sealTo_at hk] at hx
  obtain rfl := Option.some.inj hx
  rw [sealTo_recs]
theorem turned_checks {root : ByteArray} {first : Int} {R : List Rec} {k : Nat} {tag : ByteArray} {r : Rec} (h : SealOk root first R) (hk : R[k]? = some r) (ht : tag.data.toList ≠ wasS root.data.toList first.toNat R (k + 1)) :
    checkS root first ((sealTo root.data.toList first.toNat R R.length).set k ⟨r, tag⟩) = (r.epoch, (k : Int), 15) := by
  have hlen := (List.getElem?_eq_some_iff.1 hk).1
  have hm : ((sealTo root.data.toList first.toNat R R.length).set k ⟨r, tag⟩).map Sld.r = R := by
    rw [List.map_set, sealTo_recs]
    apply List.ext_getElem?
    intro j
    by_cases hj : j = k
    · subst hj
      rw [List.getElem?_set_self hlen, hk]
    · rw [List.getElem?_set_ne (by omega)]
  have hx : ((sealTo root.data.toList first.toNat R R.length).set k ⟨r, tag⟩)[k]? = some ⟨r, tag⟩ := List.getElem?_set_self (by rw [sealTo_length]; exact hlen)
  rw [checkS_of hm h, badTag_some hx (by rw [hm]; exact ht)]
  · simp only [hx]
  · intro j y hj hy
    rw [List.getElem?_set_ne (by omega), sealTo_at (by omega)] at hy
    obtain rfl := Option.some.inj hy
    rw [hm]
theorem flatS_length (l : List Sld) : (flatS l).length = l.length * 9 := by
  induction l with
  | nil => rfl
  | cons a r ih =>
    show (a.cells ++ flatS r).length = _
    rw [List.length_append, ih, List.length_cons]
    show 9 + _ = _
    omega
theorem flatS_set (l : List Sld) : ∀ (k : Nat) (x : Sld) (tag : ByteArray), l[k]? = some x → (flatS l).set (k * 9 + 8) (.string tag) = flatS (l.set k ⟨x.r, tag⟩) := by
  induction l with
  | nil => intro k x tag h; simp at h
  | cons a r ih =>
    intro k x tag h
    have ha : a.cells.length = 9 := rfl
    cases k with
    | zero =>
      simp at h
      subst h
      show (a.cells ++ flatS r).set _ _ = _
      rw [List.set_append_left _ _ (by omega)]
      rfl
    | succ k =>
      show (a.cells ++ flatS r).set _ _ = a.cells ++ flatS (r.set k _)
      rw [List.set_append_right _ _ (by omega), ha, show (k + 1) * 9 + 8 - 9 = k * 9 + 8 by omega, ih k x tag (by simpa using h)]

theorem flatS_one (l : List Sld) : ∀ v ∈ flatS l, v.oneCell' = true := by
  intro v hv
  obtain ⟨x, _, hx⟩ := List.mem_flatMap.1 hv
  exact Sld.cells_one x v hx
theorem SldRow.blk {w : World} {g n cap : Nat} {xs : List Sld} {z : List Value} {t : TypeId} (h : Blk w g (flatS xs ++ z) t) (hn : n = xs.length) (hc : n ≤ cap) : SldRow w (.slice (some ⟨g, 0, none⟩) n cap) xs := by
  subst hn
  refine .inr ⟨g, 0, cap, rfl, hc, h.lt, fun j x hx i u hu => h.cell ?_⟩
  have h1 := flatS_at xs j x hx i u hu
  rw [Nat.zero_add, List.getElem?_append_left (List.getElem?_eq_some_iff.1 h1).1]
  exact h1
set_option maxRecDepth 100000 in
set_option maxHeartbeats 2000000 in
theorem chainSeals_few (root : ByteArray) (first : Int) (v : Value) (l : List Sld) (i : Int) (tag : ByteArray) (w : World) (h : SldRow w v l) (hf : ¬ (fewS l = true ∧ tag.size ≤ 1000)) :
    Calls Try.prog 3 #[.string root, .int .i64 first, v, .int .i64 i, .string tag] w fun e w' => e = .returned (.bool true) ∧ Below w.heap.size w w' := by
  have HS := Lib.hid h; clear h
  cases h1 : fewS l with
  | false =>
    have H1 := Lib.hid h1; clear h1 hf
    go_enter Try.func3, Try.ntmps3
    go_wp2_with fail
    refine (few20_walk _ l _ HS.out).mono ?_
    rintro e w1 ⟨rfl, hb1⟩
    rw [H1.out]
    go_wp2_with fail
    refine (alive20 _).mono ?_
    rintro e w2 ⟨rfl, hb2⟩
    go_wp2_with fail
    go_ret
    exact ⟨rfl, bt hb1 hb2⟩
  | true =>
    have h2 : (1000 : Int) < tag.size := by
      by_cases hh : tag.size ≤ 1000
      · exact absurd ⟨h1, hh⟩ hf
      · omega
    have H1 := Lib.hid h1; clear h1 hf
    go_enter Try.func3, Try.ntmps3
    go_wp2_with fail
    refine (few20_walk _ l _ HS.out).mono ?_
    rintro e w1 ⟨rfl, hb1⟩
    rw [H1.out]
    go_wp2_with fail
    refine (alive20 _).mono ?_
    rintro e w2 ⟨rfl, hb2⟩
    go_wp2_with fail
    go_ret
    exact ⟨rfl, bt hb1 hb2⟩

set_option maxRecDepth 100000 in
set_option maxHeartbeats 4000000 in
theorem chainSeals_walk (root : ByteArray) (first : Int) (v : Value) (l : List Sld) (i : Int) (tag : ByteArray) (w : World) (h : SldRow w v l) (hf : fewS l = true) (h2 : (tag.size : Int) ≤ 1000) (hl : l.length ≤ 1048576) (ht : ∀ (j : Nat) (x : Sld), l[j]? = some x → x.r.name.size ≤ 1048576 ∧ Fits x.r.epoch) :
    Calls Try.prog 3 #[.string root, .int .i64 first, v, .int .i64 i, .string tag] w fun e w' => e = .returned (.bool true) ∧ Below w.heap.size w w' := by
  obtain ⟨p, c, rfl⟩ := h.shape
  obtain ⟨n, hn⟩ : ∃ n, n = l.length := ⟨_, rfl⟩
  rw [← hn] at h ⊢
  have HS := Lib.hid h; clear h
  have H1 := Lib.hid hf; clear hf
  obtain ⟨R, hR⟩ : ∃ R, R = l.map Sld.r := ⟨_, rfl⟩
  have hRl : R.length = n := by rw [hR, hn, List.length_map]
  have HT := Lib.hid (tame_recs ht); clear ht
  have HN := Lib.hid hn
  have HRR := Lib.hid hR
  have HRL := Lib.hid hRl
  have hn2 : n ≤ 1048576 := by omega
  have HL := Lib.hid hl
  clear hn hR hRl hl
  obtain ⟨i0, hi, hz0, hz1, hz2⟩ := info_parts infoSld
  go_enter Try.func3, Try.ntmps3
  go_wp2_with fail
  refine (few20_walk _ l _ HS.out).mono ?_
  rintro e w1 ⟨rfl, hb1⟩
  rw [H1.out]
  go_wp2_with fail
  refine (lrecords_walk _ l _ (HS.out.below hb1 (Nat.le_refl _)) HL.out).mono ?_
  rintro e w2 ⟨vr, rfl, hown, hb2⟩
  have HRow := Lib.hid (RecRow.own (by rw [← HRR.out] at hown; exact hown) (by rw [HRL.out, HN.out])); clear hown
  have hb12 := bt hb1 hb2
  clear hb1 hb2
  go_wp2_with fail
  refine (cseal_walk root first vr R _ HRow.out (by rw [HRL.out]; omega) (by rw [HRR.out]; exact HT.out)).mono ?_
  rintro e w3 ⟨he, hb3⟩
  have hb := bt hb12 hb3
  clear hb12 hb3 HRow
  rcases he with ⟨hok, vo, rfl, hown⟩ | ⟨_, c0, hc0, rfl⟩
  rotate_left
  · go_wp2_with fail
    refine (alive20 _).mono ?_
    rintro e w4 ⟨rfl, hb4⟩
    go_wp2_with fail
    go_ret
    exact ⟨rfl, bt hb hb4⟩
  have HOK := Lib.hid hok
  obtain ⟨S, hS⟩ : ∃ S, S = sealTo root.data.toList first.toNat R R.length := ⟨_, rfl⟩
  rw [← hS, HRL.out] at hown
  have HSS := Lib.hid hS
  have hSl : S.length = n := by rw [hS, sealTo_length, HRL.out]
  have HSL := Lib.hid hSl
  obtain ⟨q, d, rfl⟩ := own_shape hown
  have HO := Lib.hid hown
  have HSR := Lib.hid (SldRow.own hown hSl.symm)
  have HB := Lib.hid hb
  clear hok hS hSl hown hb
  have tameS : ∀ (T : List Sld), T.map Sld.r = R → ∀ (j : Nat) (x : Sld), T[j]? = some x → x.r.name.size ≤ 1048576 ∧ Fits x.r.epoch := by
    intro T hT j x hx
    have h1 := map_at hx
    rw [hT] at h1
    exact HT.out j x.r (by rw [← HRR.out]; exact h1)
  have HTS := Lib.hid tameS; clear tameS
  go_wp2_with fail
  refine (ccheck_walk root first _ S _ HSR.out (by rw [HSL.out]; omega) (HTS.out S (by rw [HSS.out, sealTo_recs]))).mono ?_
  rintro e w4 ⟨he, hb4⟩
  unfold CheckEnd at he
  rw [HSS.out, seal_checks HOK.out, HRL.out] at he
  subst he
  have HB4 := Lib.hid (bt HB.out hb4)
  have HO4 := Lib.hid (own_below hb4 HO.out)
  clear hb4
  obtain ⟨E, hE⟩ : ∃ E : Int, first + (closes R : Int) = E := ⟨_, rfl⟩
  have HE := Lib.hid hE
  simp only [hE]
  clear hE
  go_wp2_with fail
  refine (lrecords_walk _ l _ (HS.out.below HB4.out (Nat.le_refl _)) HL.out).mono ?_
  rintro e w5 ⟨vr2, rfl, hown, hb5⟩
  have HRow := Lib.hid (RecRow.own (by rw [← HRR.out] at hown; exact hown) (by rw [HRL.out, HN.out])); clear hown
  go_wp2_with fail
  refine (follow_walk first vr2 R _ HRow.out (by rw [HRL.out]; omega) (by rw [HRR.out]; exact HT.out) HOK.out.first0 HOK.out.first1).mono ?_
  rintro e w6 ⟨rfl, hb6⟩
  have hfo := follow_ok R _ _ _ HOK.out.follow
  rw [hfo.1, hfo.2.1, HOK.out.follow, HE.out, HRL.out, Nat.zero_add]
  have hb56 := bt hb5 hb6
  have HB6 := Lib.hid (bt HB4.out hb56)
  have HO6 := Lib.hid (own_below hb56 HO4.out)
  clear hb5 hb6 hb56 hfo HRow HB4 HO4
  by_cases hi0 : i < 0
  · go_wp2_with fail
    refine (alive20 _).mono ?_
    rintro e w7 ⟨rfl, hb7⟩
    go_wp2_with fail
    go_ret
    exact ⟨rfl, bt HB6.out hb7⟩
  have hi1 : 0 ≤ i := by omega
  by_cases hi2 : (n : Int) ≤ i
  · clear hi0
    go_wp2_with fail
    refine (alive20 _).mono ?_
    rintro e w7 ⟨rfl, hb7⟩
    go_wp2_with fail
    go_ret
    exact ⟨rfl, bt HB6.out hb7⟩
  obtain ⟨k, rfl⟩ : ∃ k : Nat, i = (k : Int) := ⟨i.toNat, by omega⟩
  have hkn : k < n := by omega
  have hkn' : (k : Int) < n := by omega
  have hnk : ¬ n ≤ k := by omega
  clear hi0 hi2
  obtain ⟨x, hx⟩ : ∃ x, S[k]? = some x := ⟨_, List.getElem?_eq_getElem (by rw [HSL.out]; exact hkn)⟩
  obtain ⟨r, hr⟩ : ∃ r, R[k]? = some r := ⟨_, List.getElem?_eq_getElem (by rw [HRL.out]; exact hkn)⟩
  have hxr : x.r = r ∧ x.tag.data.toList = wasS root.data.toList first.toNat R (k + 1) := by
    have h1 := hx
    rw [HSS.out, sealTo_at (by rw [HRL.out]; exact hkn)] at h1
    obtain rfl := Option.some.inj h1
    exact ⟨by simp [List.getD, hr], rfl⟩
  have HXR := Lib.hid hxr; clear hxr
  have HX := Lib.hid hx
  have HRK := Lib.hid hr
  clear hr
  obtain ⟨g, cap, z, hq, hcap, hgb, hblk⟩ := own_split HO6.out (by omega)
  injection hq with hq1 _ hq2
  subst hq1 hq2
  have hcat : ∀ (i : Nat) (u : Value), x.cells[i]? = some u → w6.cell? ⟨g, k * 9 + i, none⟩ = some u := fun i u hu => by
    refine hblk.cell ?_
    have h1 := flatS_at S k x hx i u hu
    rw [List.getElem?_append_left (List.getElem?_eq_some_iff.1 h1).1]
    exact h1
  have c8 : w6.cell? ⟨g, k * 9 + 8, none⟩ = some (.string x.tag) := hcat 8 _ rfl
  have HBL := Lib.hid hblk
  clear hcat hx hblk
  by_cases heq : tag.data.toList = x.tag.data.toList
  · have e1 : (tag.toList == x.tag.toList) = true := (Txt.self tag).same (Txt.self _) heq
    clear heq
    go_wp2_with fail
    refine (alive20 _).mono ?_
    rintro e w7 ⟨rfl, hb7⟩
    go_wp2_with fail
    go_ret
    exact ⟨rfl, bt HB6.out hb7⟩
  · have e1 : (tag.toList == x.tag.toList) = false := (Txt.self tag).other (Txt.self _) heq
    have HNE := Lib.hid heq; clear heq
    have own0 := World.ownsRow_made (base := w6.heap.size) (e := 36) (size := 9) w6 #[] 0 (Nat.le_refl _) (by unfold maxLen; omega) rfl
    have hnews : ∀ (j : Nat) (u : Value), (flatS S)[j]? = some u → (w6.alloc (.cells #[] 36)).cell? ((⟨g, 0, none⟩ : Addr).add j) = some u := fun j u hu => cells_add (HBL.out.alloc _) j u (by rw [List.getElem?_append_left (List.getElem?_eq_some_iff.1 hu).1]; exact hu)
    have HNW := Lib.hid hnews; clear hnews
    have hfl : (flatS S).length = n * 9 := by rw [flatS_length, HSL.out]
    have HFL := Lib.hid hfl; clear hfl
    have hx8 : (flatS S)[k * 9 + 8]? = some (.string x.tag) := flatS_at S k x HX.out 8 _ rfl
    have HX8 := Lib.hid hx8; clear hx8
    go_wp2_with (first
      | (at_builtin; refine wpList_append_own_wide _ rfl _ _ 22 rfl w6.heap.size 36 i0 (.agg (Sld.cells ⟨Rec.zero, ⟨#[]⟩⟩).toArray) 9 96 Try.underlying22 hi hz0 hz1 hz2 rfl (by decide) _ _ _ rfl own0 ⟨g, 0, none⟩ n d (flatS S) rfl HFL.out HNW.out (flatS_one _) (by unfold maxLen; omega) (by omega) (by simp) ?_; intro v' w8 own8 grow8 nil8; (have own8' : w8.ownsRow w6.heap.size 36 9 v' n (flatS S) := by simpa using own8); (obtain ⟨g8, cap8, z8, rfl, hc8, hg8, hblk8⟩ := own_split own8' (by omega)); (have ck : w8.cell? ⟨g8, k * 9 + 8, none⟩ = some (.string x.tag) := hblk8.cell (by rw [List.getElem?_append_left (List.getElem?_eq_some_iff.1 HX8.out).1]; exact HX8.out)); (have fk := hblk8.free (k * 9 + 8)))
      | fail)
    have hB9 : Blk (w8.setCell ⟨g8, k * 9 + 8, none⟩ (.string tag)) g8 (flatS (S.set k ⟨r, tag⟩) ++ z8) 36 := (hblk8.set (k * 9 + 8) (.string tag)).ext (by
      rw [List.set_append_left _ _ (List.getElem?_eq_some_iff.1 HX8.out).1, flatS_set S k x tag HX.out, HXR.out.1])
    have hrow9 : SldRow (w8.setCell ⟨g8, k * 9 + 8, none⟩ (.string tag)) (.slice (some ⟨g8, 0, none⟩) n cap8) (S.set k ⟨r, tag⟩) := SldRow.blk hB9 (by rw [List.length_set, HSL.out]) hc8
    have hb8 : Below w.heap.size w (w8.setCell ⟨g8, k * 9 + 8, none⟩ (.string tag)) := by
      have h0 := HB6.out.alloc HB6.out.size (.cells #[] 36)
      exact (below_own h0 own0 grow8 HB6.out.size h0.size).setCell (by have := HB6.out.size; show w.heap.size ≤ g8; omega) _
    have HR9 := Lib.hid hrow9
    have HB8 := Lib.hid hb8
    have hmS : (S.set k ⟨r, tag⟩).map Sld.r = R := by
      rw [List.map_set, HSS.out, sealTo_recs]
      apply List.ext_getElem?
      intro j
      by_cases hj : j = k
      · subst hj
        rw [List.getElem?_set_self (List.getElem?_eq_some_iff.1 HRK.out).1, HRK.out]
      · rw [List.getElem?_set_ne (by omega)]
    have HMS := Lib.hid hmS
    clear hrow9 hb8 hB9 hmS ck fk hblk8 own8 own8' grow8 nil8 own0 c8 e1
    refine (ccheck_walk root first _ (S.set k ⟨r, tag⟩) _ HR9.out (by rw [List.length_set, HSL.out]; omega) (HTS.out _ HMS.out)).mono ?_
    rintro e w9 ⟨he, hb9⟩
    unfold CheckEnd at he
    rw [HSS.out, turned_checks HOK.out HRK.out (by rw [← HXR.out.2]; exact HNE.out)] at he
    subst he
    go_wp2_with fail
    refine (alive20 _).mono ?_
    rintro e w10 ⟨rfl, hb10⟩
    go_wp2_with fail
    go_ret
    exact ⟨rfl, bt HB8.out (bt hb9 hb10)⟩

theorem chainSeals_law (root : ByteArray) (first : Int) (v : Value) (l : List Sld) (i : Int) (tag : ByteArray) (w : World) (hv : SldsIn w v l) :
    Calls Try.prog 3 #[.string root, .int .i64 first, v, .int .i64 i, .string tag] w fun e w' => e = .returned (.bool true) ∧ Below w.heap.size w w' := by
  by_cases hf : fewS l = true ∧ tag.size ≤ 1000
  · refine chainSeals_walk root first v l i tag w hv.row hf.1 (by omega) (by have := fewS_len hf.1; omega) ?_
    intro j x hx
    have := fewS_each hf.1 j x hx
    exact ⟨by omega, (hv.fits j x hx).epoch⟩
  · exact chainSeals_few root first v l i tag w hv.row hf
end Go.Proofs.Ytmiikdkdccheeaa
