/- Walk of HmacHashes: for every key and every row of texts the law returns true. No condition. -/
import Derived.Test.YtacoibiafpdoaaaRows1
import Derived.Test.YtacoibiafpdoaaaWDerive3
import Derived.Test.YtacoibiafpdoaaaLaw03
import Derived.Deep.RegionWith
import Derived.Deep.DeepCutAuto
import Derived.Deep.RegionHeld3
namespace Go.Proofs.Ytacoibiafpdoaaa
open Go Go.RowKit
set_option linter.unusedVariables false

theorem parts_in (k : ByteArray) (v : Value) (xs : List ByteArray) (w : World) (h : StrsIn w v xs) (hk : k.size ≤ 16777216) (hl : xs.length ≤ 1073741824) (hn : (catL xs).length ≤ 16777216) :
    Calls Try.prog 56 #[.string k, v] w fun e w' => ∃ r, e = .returned (.string r) ∧ Txt r (mac k.data.toList (catL xs)) ∧ Below w.heap.size w w' := by
  rcases h.row with ⟨rfl, p, c, rfl⟩ | ⟨g, o, c, rfl, hcap, hg, hc⟩
  · clear h
    go_enter Try.func56, Try.ntmps56
    go_wp2_with fail
    refine (Try.strings_Join_none p c ⟨#[]⟩ _).mono ?_
    rintro e w1 ⟨rfl, rfl⟩
    go_wp2_with fail
    refine (mac_walk k ⟨#[]⟩ _ hk (by show 0 ≤ _; omega)).mono ?_
    rintro e w2 ⟨r, rfl, tr, hb2⟩
    go_wp2_with fail
    go_ret
    exact ⟨r, rfl, tr, hb2⟩
  · exact parts_row k g o c xs w hk hg hc hcap hl hn

theorem sum_one_drew (s : ByteArray) (w : World) (c : Nat) (hn : s.size ≤ 536870912) :
    Calls Try.prog 39 #[.slice (some ⟨w.heap.size, 0, none⟩) 1 c] (w.alloc (.cells #[.string s] 9)).drew fun e w' => ∃ r, e = .returned (.string r) ∧ Txt r (sha s.data.toList) ∧ Below w.heap.size w w' := by
  have := sum_one s w.drew c hn
  refine Calls.mono (show Calls Try.prog 39 #[.slice (some ⟨w.heap.size, 0, none⟩) 1 c] (w.alloc (.cells #[.string s] 9)).drew _ from this) ?_
  rintro e w' ⟨r, rfl, t, b⟩
  exact ⟨r, rfl, t, (Below.refl _ _).drew.trans b⟩

set_option maxRecDepth 100000 in
set_option maxHeartbeats 2000000 in
theorem hmacHashes_walk (key : ByteArray) (v : Value) (xs : List ByteArray) (w : World) (h : StrsIn w v xs) :
    Calls Try.prog 9 #[.string key, v] w fun e w' => e = .returned (.bool true) ∧ Below w.heap.size w w' := by
  obtain ⟨p, c, rfl⟩ := h.shape
  have H := Lib.hid h; clear h
  by_cases c1 : 500 < key.size
  · have d1 : (500 : Int) < key.size := by omega
    go_enter Try.func9, Try.ntmps9
    go_wp2_with fail
    refine (alive03 _).mono ?_
    rintro e w1 ⟨rfl, hb1⟩
    go_wp2_with fail
    go_ret
    exact ⟨rfl, hb1⟩
  have d1 : (key.size : Int) ≤ 500 := by omega
  by_cases c2 : 200 < xs.length
  · have d2 : (200 : Int) < xs.length := by omega
    go_enter Try.func9, Try.ntmps9
    go_wp2_with fail
    refine (alive03 _).mono ?_
    rintro e w1 ⟨rfl, hb1⟩
    go_wp2_with fail
    go_ret
    exact ⟨rfl, hb1⟩
  have d2 : (xs.length : Int) ≤ 200 := by omega
  obtain ⟨n, Hn⟩ : ∃ n, Hid (n = bytesN xs) := ⟨_, rfl⟩
  by_cases c3 : 5000 < n
  · have d3 : (5000 : Int) < n := by omega
    go_enter Try.func9, Try.ntmps9
    go_wp2_with fail
    refine (bytes01_walk _ xs _ H.out (by omega)).mono ?_
    rintro e w1 ⟨rfl, hb1⟩
    rw [← Hn.out]
    go_wp2_with fail
    refine (alive03 _).mono ?_
    rintro e w2 ⟨rfl, hb2⟩
    go_wp2_with fail
    go_ret
    exact ⟨rfl, bt hb1 hb2⟩
  have d3 : (n : Int) ≤ 5000 := by omega
  have hcat : (catL xs).length ≤ 5000 := by
    have := catL_bytesN xs (by rw [← Hn.out]; omega)
    rw [← Hn.out] at this; omega
  clear c1 c2 c3
  go_enter Try.func9, Try.ntmps9
  go_wp2_with fail
  refine (bytes01_walk _ xs _ H.out (by omega)).mono ?_
  rintro e w1 ⟨rfl, hb1⟩
  rw [← Hn.out]
  have H1 := Lib.hid (H.out.below hb1 (Nat.le_refl _)); clear H
  go_wp2_with fail
  refine (join02_walk _ xs _ H1.out (by omega) (by omega)).mono ?_
  rintro e w2 ⟨m, rfl, tm, hb2⟩
  have H2 := Lib.hid (H1.out.below hb2 (Nat.le_refl _)); clear H1
  have sm : m.size ≤ 5000 := by rw [tm.size]; exact hcat
  have sm' : (m.size : Int) ≤ 5000 := by omega
  go_wp2_with fail
  refine (inner_walk key m _ (by omega) (by omega)).mono ?_
  rintro e w3 ⟨inn, rfl, ti, hb3⟩
  go_wp2_with fail
  refine (outer_walk key m _ (by omega) (by omega)).mono ?_
  rintro e w4 ⟨out, rfl, tou, hb4⟩
  have si : inn.size = 64 + m.size := by rw [ti.size, hinner_length]; rfl
  have so : out.size = 96 := by rw [tou.size, houter_length]
  have f1 : ((inn.size : Int) == 64 + (m.size : Int)) = true := by simpa using (show (inn.size : Int) = 64 + (m.size : Int) by omega)
  have f2 : ((inn.size : Int) != 64 + (m.size : Int)) = false := by simpa using (show (inn.size : Int) = 64 + (m.size : Int) by omega)
  have f3 : ((out.size : Int) == 96) = true := by simpa using (show (out.size : Int) = 96 by omega)
  have f4 : ((out.size : Int) != 96) = false := by simpa using (show (out.size : Int) = 96 by omega)
  have ui : (64 : Int) ≤ inn.size := by omega
  have ui2 : (inn.size : Int) ≤ 5064 := by omega
  have uo : (64 : Int) ≤ out.size := by omega
  have uo2 : (out.size : Int) ≤ 96 := by omega
  have g1 : ((inn.extract 64 inn.size).toList == m.toList) = true := by
    refine (ti.extract 64 inn.size).same (Txt.self m) ?_
    rw [List.take_of_length_le (by rw [← ti.size]; omega)]
    unfold hinner
    rw [List.drop_append_of_le_length (by rw [heldL_length]; omega), List.drop_of_length_le (by rw [heldL_length]; omega), List.nil_append]
  have g2of : ∀ q : ByteArray, Txt q (sha inn.data.toList) → ((out.extract 64 out.size).toList == q.toList) = true := fun q tq => by
    refine (tou.extract 64 out.size).same tq ?_
    rw [List.take_of_length_le (by rw [← tou.size]; omega), show inn.data.toList = _ from ti]
    unfold houter
    rw [List.drop_append_of_le_length (by rw [heldL_length]; omega), List.drop_of_length_le (by rw [heldL_length]; omega), List.nil_append]
  have ew : IntKind.i64.wrap (64 + (m.size : Int)) = (inn.size : Int) := by rw [IntWalk.i64_in _ (by omega)]; omega
  have SI := Lib.hid si; clear si f1 f2
  have SO := Lib.hid so; clear so
  go_wp2_with fail
  go_region_held3 (fun _ => True) (trivial) ((go_at_call 39; refine (sum_one_drew inn _ _ (by omega)).mono ?_; rintro e w5 ⟨q, rfl, tq, hb5⟩; have g2 := g2of q tq))

  have H5 := Lib.hid (H2.out.below (bt hb3 (bt hb4 hb5)) (Nat.le_refl _)); clear H2
  clear ew f3 f4 g1
  go_wp2_with fail
  refine (mac_walk key m _ (by omega) (by omega)).mono ?_
  rintro e w6 ⟨t, rfl, tt, hb6⟩
  go_wp2_with fail
  refine (sum_one out _ _ (by omega)).mono ?_
  rintro e w7 ⟨u, rfl, tu, hb7⟩
  have g3 : (t.toList == u.toList) = true := tt.same tu (by rw [show out.data.toList = _ from tou]; rfl)
  have H7 := Lib.hid (H5.out.below (bt hb6 hb7) (Nat.le_refl _)); clear H5
  go_wp2_with fail
  refine (parts_in key _ xs _ H7.out (by omega) (by omega) (by omega)).mono ?_
  rintro e w8 ⟨x, rfl, tx, hb8⟩
  go_wp2_with fail
  refine (mac_walk key m _ (by omega) (by omega)).mono ?_
  rintro e w9 ⟨y, rfl, ty, hb9⟩
  have g4 : (x.toList == y.toList) = true := tx.same ty (by rw [show m.data.toList = _ from tm])
  go_wp2_with fail
  refine (alive03 _).mono ?_
  rintro e w10 ⟨rfl, hb10⟩
  go_wp2_with fail
  go_ret
  exact ⟨rfl, bt hb1 (bt hb2 (bt hb3 (bt hb4 (bt hb5 (bt hb6 (bt hb7 (bt hb8 (bt hb9 hb10))))))))⟩
end Go.Proofs.Ytacoibiafpdoaaa
