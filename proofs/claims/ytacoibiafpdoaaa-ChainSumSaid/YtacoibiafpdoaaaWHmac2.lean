/- Walks of hmac.Clash and hmac.Parts. -/
import Derived.Test.YtacoibiafpdoaaaWHmac
namespace Go.Proofs.Ytacoibiafpdoaaa
open Go Go.RowKit
set_option linter.unusedVariables false

theorem Txt.toList {r : ByteArray} {l : List UInt8} (h : Txt r l) : r.toList = l := (Lib.toList_data r).trans h
theorem Txt.same {r r' : ByteArray} {l l' : List UInt8} (h : Txt r l) (h' : Txt r' l') (e : l = l') : (r.toList == r'.toList) = true := by
  rw [h.toList, h'.toList, e]; simp
theorem Txt.other {r r' : ByteArray} {l l' : List UInt8} (h : Txt r l) (h' : Txt r' l') (e : l ≠ l') : (r.toList == r'.toList) = false := by
  rw [h.toList, h'.toList]; simpa using e
theorem Txt.is {r : ByteArray} {l l' : List UInt8} (h : Txt r l) (e : l = l') : (r.toList == l') = true := by
  rw [h.toList, e]; simp

theorem mac_clash {k m l n : List UInt8} (ht : mac k m = mac l n) (ho : houter k m = houter l n) : sha (hinner k m) = sha (hinner l n) :=
  (List.append_inj ho (by simp [heldL_length])).2

/-- Two messages of unlike tags, or of one key's block and one text: nothing is told. -/
theorem clash_unlike (k m l n : ByteArray) (w : World) (hk : k.size ≤ 16777216) (hm : m.size ≤ 16777216) (hl : l.size ≤ 16777216) (hn : n.size ≤ 16777216)
    (ht : mac k.data.toList m.data.toList ≠ mac l.data.toList n.data.toList) :
    Calls Try.prog 48 #[.string k, .string m, .string l, .string n] w fun e w' => e = .returned (.tuple #[.string ⟨#[]⟩, .string ⟨#[]⟩, .bool false]) ∧ Below w.heap.size w w' := by
  go_enter Try.func48, Try.ntmps48
  go_wp2_with fail
  refine (mac_walk k m _ hk hm).mono ?_
  rintro e w1 ⟨t, rfl, tt, hb1⟩
  go_wp2_with fail
  refine (mac_walk l n _ hl hn).mono ?_
  rintro e w2 ⟨u, rfl, tu, hb2⟩
  have hx := tt.other tu ht
  go_wp2_with fail
  go_ret3
  exact ⟨rfl, hb1.trans (hb2.mono hb1.size)⟩

theorem clash_one (k m l n : ByteArray) (w : World) (hk : k.size ≤ 16777216) (hm : m.size ≤ 16777216) (hl : l.size ≤ 16777216) (hn : n.size ≤ 16777216)
    (ht : mac k.data.toList m.data.toList = mac l.data.toList n.data.toList) (hkl : hkey k.data.toList = hkey l.data.toList) (hmn : m.data.toList = n.data.toList) :
    Calls Try.prog 48 #[.string k, .string m, .string l, .string n] w fun e w' => e = .returned (.tuple #[.string ⟨#[]⟩, .string ⟨#[]⟩, .bool false]) ∧ Below w.heap.size w w' := by
  have h3 := (Txt.self m).same (Txt.self n) hmn
  have Ht := Lib.hid ht; clear ht
  have Hkl := Lib.hid hkl; clear hkl
  have Hmn := Lib.hid hmn; clear hmn
  go_enter Try.func48, Try.ntmps48
  go_wp2_with fail
  refine (mac_walk k m _ hk hm).mono ?_
  rintro e w1 ⟨t, rfl, tt, hb1⟩
  go_wp2_with fail
  refine (mac_walk l n _ hl hn).mono ?_
  rintro e w2 ⟨u, rfl, tu, hb2⟩
  have hx := tt.same tu Ht.out
  go_wp2_with fail
  refine (hkey_walk k _ hk).mono ?_
  rintro e w3 ⟨p, rfl, tp, hb3⟩
  go_wp2_with fail
  refine (hkey_walk l _ hl).mono ?_
  rintro e w4 ⟨q, rfl, tq, hb4⟩
  have hy := tp.same tq Hkl.out
  go_wp2_with fail
  go_ret3
  have q1 := hb1.size
  have q2 := hb2.size
  have q3 := hb3.size
  exact ⟨rfl, ((hb1.trans (hb2.mono (by omega))).trans (hb3.mono (by omega))).trans (hb4.mono (by omega))⟩

/-- What is told of two messages of one tag: two unlike texts of one sum. -/
def Told2 (e : Ending) : Prop := ∃ (a b : ByteArray) (x y : List UInt8), e = .returned (.tuple #[.string a, .string b, .bool true]) ∧ Txt a x ∧ Txt b y ∧ x ≠ y ∧ sha x = sha y ∧ a.size ≤ 33554432 ∧ b.size ≤ 33554432

set_option maxHeartbeats 1000000 in
theorem clash_told (k m l n : ByteArray) (w : World) (hk : k.size ≤ 16777216) (hm : m.size ≤ 16777216) (hl : l.size ≤ 16777216) (hn : n.size ≤ 16777216)
    (ht : mac k.data.toList m.data.toList = mac l.data.toList n.data.toList) (ha : hkey k.data.toList ≠ hkey l.data.toList ∨ m.data.toList ≠ n.data.toList) :
    Calls Try.prog 48 #[.string k, .string m, .string l, .string n] w fun e w' => Told2 e ∧ Below w.heap.size w w' := by
  have Ht := Lib.hid ht; clear ht
  have Ha := Lib.hid ha; clear ha
  by_cases ho : houter k.data.toList m.data.toList = houter l.data.toList n.data.toList
  · have Ho := Lib.hid ho; clear ho
    by_cases hkl : hkey k.data.toList = hkey l.data.toList
    · have h3 := (Txt.self m).other (Txt.self n) (Ha.out.resolve_left (fun h => h hkl))
      have Hkl := Lib.hid hkl; clear hkl
      go_enter Try.func48, Try.ntmps48
      go_wp2_with fail
      refine (mac_walk k m _ hk hm).mono ?_
      rintro e w1 ⟨t, rfl, tt, hb1⟩
      go_wp2_with fail
      refine (mac_walk l n _ hl hn).mono ?_
      rintro e w2 ⟨u, rfl, tu, hb2⟩
      have hx := tt.same tu Ht.out
      go_wp2_with fail
      refine (hkey_walk k _ hk).mono ?_
      rintro e w3 ⟨p, rfl, tp, hb3⟩
      go_wp2_with fail
      refine (hkey_walk l _ hl).mono ?_
      rintro e w4 ⟨q, rfl, tq, hb4⟩
      have hy := tp.same tq Hkl.out
      go_wp2_with fail
      refine (outer_walk k m _ hk hm).mono ?_
      rintro e w5 ⟨o1, rfl, to1, hb5⟩
      go_wp2_with fail
      refine (outer_walk l n _ hl hn).mono ?_
      rintro e w6 ⟨o2, rfl, to2, hb6⟩
      have hz := to1.same to2 Ho.out
      go_wp2_with fail
      refine (inner_walk k m _ hk hm).mono ?_
      rintro e w7 ⟨i1, rfl, ti1, hb7⟩
      go_wp2_with fail
      refine (inner_walk l n _ hl hn).mono ?_
      rintro e w8 ⟨i2, rfl, ti2, hb8⟩
      go_wp2_with fail
      go_ret3
      have q1 := hb1.size
      have q2 := hb2.size
      have q3 := hb3.size
      have q4 := hb4.size
      have q5 := hb5.size
      have q6 := hb6.size
      have q7 := hb7.size
      exact ⟨⟨_, _, _, _, rfl, ti1, ti2, hinner_ne Ha.out, mac_clash Ht.out Ho.out, by rw [ti1.size, hinner_length]; show 64 + m.size ≤ _; omega, by rw [ti2.size, hinner_length]; show 64 + n.size ≤ _; omega⟩,
        ((((((hb1.trans (hb2.mono (by omega))).trans (hb3.mono (by omega))).trans (hb4.mono (by omega))).trans (hb5.mono (by omega))).trans (hb6.mono (by omega))).trans (hb7.mono (by omega))).trans (hb8.mono (by omega))⟩
    · exact absurd Ho.out (houter_ne hkl)
  · have Ho := Lib.hid ho; clear ho
    by_cases hkl : hkey k.data.toList = hkey l.data.toList
    · have h3 := (Txt.self m).other (Txt.self n) (Ha.out.resolve_left (fun h => h hkl))
      have Hkl := Lib.hid hkl; clear hkl
      go_enter Try.func48, Try.ntmps48
      go_wp2_with fail
      refine (mac_walk k m _ hk hm).mono ?_
      rintro e w1 ⟨t, rfl, tt, hb1⟩
      go_wp2_with fail
      refine (mac_walk l n _ hl hn).mono ?_
      rintro e w2 ⟨u, rfl, tu, hb2⟩
      have hx := tt.same tu Ht.out
      go_wp2_with fail
      refine (hkey_walk k _ hk).mono ?_
      rintro e w3 ⟨p, rfl, tp, hb3⟩
      go_wp2_with fail
      refine (hkey_walk l _ hl).mono ?_
      rintro e w4 ⟨q, rfl, tq, hb4⟩
      have hy := tp.same tq Hkl.out
      go_wp2_with fail
      refine (outer_walk k m _ hk hm).mono ?_
      rintro e w5 ⟨o1, rfl, to1, hb5⟩
      go_wp2_with fail
      refine (outer_walk l n _ hl hn).mono ?_
      rintro e w6 ⟨o2, rfl, to2, hb6⟩
      have hz := to1.other to2 Ho.out
      go_wp2_with fail
      go_ret3
      have q1 := hb1.size
      have q2 := hb2.size
      have q3 := hb3.size
      have q4 := hb4.size
      have q5 := hb5.size
      exact ⟨⟨_, _, _, _, rfl, to1, to2, Ho.out, Ht.out, by rw [to1.size, houter_length]; omega, by rw [to2.size, houter_length]; omega⟩,
        ((((hb1.trans (hb2.mono (by omega))).trans (hb3.mono (by omega))).trans (hb4.mono (by omega))).trans (hb5.mono (by omega))).trans (hb6.mono (by omega))⟩
    · have Hkl := Lib.hid hkl; clear hkl
      go_enter Try.func48, Try.ntmps48
      go_wp2_with fail
      refine (mac_walk k m _ hk hm).mono ?_
      rintro e w1 ⟨t, rfl, tt, hb1⟩
      go_wp2_with fail
      refine (mac_walk l n _ hl hn).mono ?_
      rintro e w2 ⟨u, rfl, tu, hb2⟩
      have hx := tt.same tu Ht.out
      go_wp2_with fail
      refine (hkey_walk k _ hk).mono ?_
      rintro e w3 ⟨p, rfl, tp, hb3⟩
      go_wp2_with fail
      refine (hkey_walk l _ hl).mono ?_
      rintro e w4 ⟨q, rfl, tq, hb4⟩
      have hy := tp.other tq Hkl.out
      go_wp2_with fail
      refine (outer_walk k m _ hk hm).mono ?_
      rintro e w5 ⟨o1, rfl, to1, hb5⟩
      go_wp2_with fail
      refine (outer_walk l n _ hl hn).mono ?_
      rintro e w6 ⟨o2, rfl, to2, hb6⟩
      have hz := to1.other to2 Ho.out
      go_wp2_with fail
      go_ret3
      have q1 := hb1.size
      have q2 := hb2.size
      have q3 := hb3.size
      have q4 := hb4.size
      have q5 := hb5.size
      exact ⟨⟨_, _, _, _, rfl, to1, to2, Ho.out, Ht.out, by rw [to1.size, houter_length]; omega, by rw [to2.size, houter_length]; omega⟩,
        ((((hb1.trans (hb2.mono (by omega))).trans (hb3.mono (by omega))).trans (hb4.mono (by omega))).trans (hb5.mono (by omega))).trans (hb6.mono (by omega))⟩
end Go.Proofs.Ytacoibiafpdoaaa
