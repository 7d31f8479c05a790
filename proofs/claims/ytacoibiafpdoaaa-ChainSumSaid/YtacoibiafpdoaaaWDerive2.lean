/- Walk of derive.Said: what a key is made for, as bytes. -/
import Derived.Test.YtacoibiafpdoaaaWDerive
namespace Go.Proofs.Ytacoibiafpdoaaa
open Go Go.RowKit
set_option linter.unusedVariables false

/-- A row of numbers, as a slice. -/
def IntRow (w : World) (v : Value) (xs : List Int) : Prop :=
  (xs = [] ∧ ∃ (p : Option Addr) (c : Nat), v = .slice p 0 c) ∨
  ∃ g o c, v = .slice (some ⟨g, o, none⟩) xs.length c ∧ g < w.heap.size ∧ ∀ (j : Nat) (x : Int), xs[j]? = some x → w.cell? ⟨g, o + j, none⟩ = some (.int .i64 x)
theorem IntRow.below {w w' : World} {v : Value} {xs : List Int} (h : IntRow w v xs) {B : Nat} (hb : Below B w w') (hB : w.heap.size ≤ B) : IntRow w' v xs := by
  rcases h with h | ⟨g, o, c, h1, h2, h3⟩
  · exact .inl h
  · exact .inr ⟨g, o, c, h1, by have := hb.size; omega, fun j x hx => by rw [hb.cell (by show g < B; omega)]; exact h3 j x hx⟩
theorem IntRow.nil (w : World) : IntRow w (.slice none 0 0) [] := .inl ⟨rfl, _, _, rfl⟩

/-- How Said ends. -/
def SaidEnd (label : List UInt8) (xs : List Int) (e : Ending) : Prop :=
  (saidOk label xs = true ∧ ∃ r, e = .returned (.tuple #[.string r, .int .i64 0]) ∧ Txt r (saidL label (xs.map Int.toNat))) ∨
  (saidOk label xs = false ∧ e = .returned (.tuple #[.string ⟨#[]⟩, .int .i64 2]))

/-- What is said behind k numbers. -/
def saidTo (label : List UInt8) (xs : List Int) (k : Nat) : List UInt8 := textL label ++ [UInt8.ofNat xs.length] ++ ((xs.take k).map Int.toNat).flatMap (beBytes 8)
theorem saidTo_zero (label : List UInt8) (xs : List Int) : saidTo label xs 0 = textL label ++ [UInt8.ofNat xs.length] := by simp [saidTo]
theorem saidTo_succ (label : List UInt8) (xs : List Int) (k : Nat) (x : Int) (h : xs[k]? = some x) : saidTo label xs (k + 1) = saidTo label xs k ++ beBytes 8 x.toNat := by
  obtain ⟨hk, rfl⟩ := List.getElem?_eq_some_iff.1 h
  unfold saidTo
  rw [List.take_succ_eq_append_getElem hk, List.map_append, List.flatMap_append]
  simp
theorem saidTo_all (label : List UInt8) (xs : List Int) : saidTo label xs xs.length = saidL label (xs.map Int.toNat) := by simp [saidTo, saidL]
theorem saidTo_length (label : List UInt8) (xs : List Int) (k : Nat) : (saidTo label xs k).length ≤ 5 + label.length + 8 * xs.length := by
  unfold saidTo
  rw [List.length_append, List.length_append, textL_length, flatMap8_length, List.length_map, List.length_take, List.length_singleton]; omega
theorem saidOk_of {label : List UInt8} {xs : List Int} (h1 : 1 ≤ label.length) (h2 : label.length ≤ 16) (h3 : xs.length ≤ 8) (h4 : ∀ (i : Nat) (x : Int), xs[i]? = some x → 0 ≤ x) : saidOk label xs = true := by
  simp only [saidOk, Bool.and_eq_true, decide_eq_true_eq, List.all_eq_true]
  refine ⟨⟨⟨h1, h2⟩, h3⟩, fun x hx => ?_⟩
  obtain ⟨i, hi⟩ := List.mem_iff_getElem?.1 hx
  exact h4 i x hi
theorem saidNo_1 {label : List UInt8} {xs : List Int} (h : label.length < 1) : saidOk label xs = false := by
  have : decide (1 ≤ label.length) = false := by simpa using h
  simp [saidOk]; omega
theorem saidNo_2 {label : List UInt8} {xs : List Int} (h : 16 < label.length) : saidOk label xs = false := by
  have : decide (label.length ≤ 16) = false := by simpa using h
  simp [saidOk, this]
theorem saidNo_3 {label : List UInt8} {xs : List Int} (h : 8 < xs.length) : saidOk label xs = false := by
  have : decide (xs.length ≤ 8) = false := by simpa using h
  simp [saidOk, this]
theorem saidNo_4 {label : List UInt8} {xs : List Int} {i : Nat} {x : Int} (hi : xs[i]? = some x) (h : x < 0) : saidOk label xs = false := by
  have : xs.all (fun n => decide (0 ≤ n)) = false := by
    rw [List.all_eq_false]
    exact ⟨x, List.mem_iff_getElem?.2 ⟨i, hi⟩, by simpa using h⟩
  simp [saidOk, this]

theorem emptyText {s : ByteArray} (h : s.size < 1) : s.toList = [] := by
  rw [Lib.toList_data]; exact List.eq_nil_of_length_eq_zero (by show s.size = 0; omega)
theorem someText {s : ByteArray} (h : 1 ≤ s.size) : s.toList.isEmpty = false := by
  rw [Lib.toList_data]
  cases e : s.data.toList with
  | nil => have : s.size = 0 := by show s.data.toList.length = 0; rw [e]; rfl
           omega
  | cons a b => rfl

set_option maxHeartbeats 1000000 in
theorem said_nil (label : ByteArray) (p : Option Addr) (c : Nat) (w : World) :
    Calls Try.prog 50 #[.string label, .slice p 0 c] w fun e w' => SaidEnd label.data.toList ([] : List Int) e ∧ Below w.heap.size w w' := by
  by_cases c1 : label.size < 1
  · have d1 := emptyText c1
    go_enter Try.func50, Try.ntmps50
    go_wp2_with fail
    go_ret2
    exact ⟨.inr ⟨saidNo_1 (show label.data.toList.length < 1 from c1), rfl⟩, Below.refl _ _⟩
  · have d1 := someText (s := label) (by omega)
    by_cases c2 : 16 < label.size
    · have d2 : (16 : Int) < label.size := by omega
      go_enter Try.func50, Try.ntmps50
      go_wp2_with fail
      go_ret2
      exact ⟨.inr ⟨saidNo_2 (show 16 < label.data.toList.length from c2), rfl⟩, Below.refl _ _⟩
    · have d2 : (label.size : Int) ≤ 16 := by omega
      have hT : (textL label.data.toList).length ≤ 20 := by rw [textL_length]; show 4 + label.size ≤ 20; omega
      go_enter Try.func50, Try.ntmps50
      go_wp2_with ((with_reducible refine wpList_alloc_new 110 _ zeroBuilder (some 6) ?hgd ?ho ?hd ?_); (case hgd => rfl); (case ho => rfl); (case hd => rfl); (intro b w1 l1 B1 e1 z1))
      refine (otext_walk label _ (by omega)).mono ?_
      rintro e w2 ⟨r, rfl, tr, hb2⟩
      have hB2 : Bld w2 b [] := (Bld.new B1).below hb2
      have hr : r.size ≤ 20 := by rw [tr.size]; exact hT
      clear B1
      have HB2 := Lib.hid hB2; clear hB2
      go_wp2_with fail
      refine (bld_writeString b [] r _ HB2.out (by simp; omega)).mono ?_
      rintro e w3 ⟨rfl, hB3, hb3⟩
      have HB3 := Lib.hid hB3; clear hB3
      go_wp2_with fail
      refine (bld_writeByte b _ _ _ HB3.out ?_ ?_ ?_).mono ?_
      · omega
      · omega
      · rw [List.nil_append, show r.data.toList = _ from tr]; omega
      rintro e w4 ⟨rfl, hB4, hb4⟩
      have HB4 : Hid (Bld w4 b (saidTo label.data.toList ([] : List Int) 0)) := by
        show Bld w4 b _
        rw [saidTo_zero, ← show r.data.toList = _ from tr]
        have := hB4
        simpa using this
      clear hB4
      have q2 := hb2.size
      have q3 := hb3.size
      have hbel : Below w.heap.size w w4 := ((((e1.mono l1).trans (hb2.mono (by omega))).trans (hb3.mono l1)).trans (hb4.mono l1))
      clear e1 hb2 hb3 hb4 q2 q3
      go_wp2_with fail
      go_loopw [32] (fun i wr => ∃ k : Nat, k ≤ 0 ∧ i = .int .i64 k ∧ Bld wr b (saidTo label.data.toList ([] : List Int) k) ∧ Below w.heap.size w wr ∧ ∀ (i : Nat) (x : Int), i < k → ([] : List Int)[i]? = some x → 0 ≤ x) (fun i _ => 0 - (intOf i).toNat)
      case atStart => exact ⟨0, by omega, rfl, HB4.out, hbel, fun i x h => by omega⟩
      case round =>
        clear HB4 hbel
        obtain ⟨k, hk, rfl, hB, hbel, hpos⟩ := hrel
        have HB := Lib.hid hB; clear hB
        have HP := Lib.hid hpos; clear hpos
        have HL := Lib.hid (saidTo_length label.data.toList ([] : List Int) k)
        have hll : label.data.toList.length = label.size := rfl
        have HLL := Lib.hid hll; clear hll
        obtain rfl : k = 0 := by omega
        go_wp2_with fail
        refine (bld_string b _ _ HB.out).mono ?_
        rintro e w5 ⟨q, rfl, tq, hb5⟩
        go_wp2_with fail
        go_ret2
        exact ⟨.inl ⟨saidOk_of (show 1 ≤ label.size by omega) (show label.size ≤ 16 by omega) (by simp) (fun i x h => by simp at h), q, rfl, tq.cast rfl⟩, hbel.trans (hb5.mono l1)⟩

set_option maxHeartbeats 1000000 in
theorem said_row (label : ByteArray) (g o c : Nat) (xs : List Int) (w : World) (hg : g < w.heap.size) (hc : ∀ (j : Nat) (x : Int), xs[j]? = some x → w.cell? ⟨g, o + j, none⟩ = some (.int .i64 x)) (hx : ∀ (j : Nat) (x : Int), xs[j]? = some x → x < 9223372036854775808) (hxl : xs.length ≤ 1073741824) :
    Calls Try.prog 50 #[.string label, .slice (some ⟨g, o, none⟩) xs.length c] w fun e w' => SaidEnd label.data.toList xs e ∧ Below w.heap.size w w' := by
  have Hc := Lib.hid hc; clear hc
  have Hx := Lib.hid hx; clear hx
  by_cases c1 : label.size < 1
  · have d1 := emptyText c1
    go_enter Try.func50, Try.ntmps50
    go_wp2_with fail
    go_ret2
    exact ⟨.inr ⟨saidNo_1 (show label.data.toList.length < 1 from c1), rfl⟩, Below.refl _ _⟩
  · have d1 := someText (s := label) (by omega)
    by_cases c2 : 16 < label.size
    · have d2 : (16 : Int) < label.size := by omega
      go_enter Try.func50, Try.ntmps50
      go_wp2_with fail
      go_ret2
      exact ⟨.inr ⟨saidNo_2 (show 16 < label.data.toList.length from c2), rfl⟩, Below.refl _ _⟩
    · have d2 : (label.size : Int) ≤ 16 := by omega
      by_cases c3 : 8 < xs.length
      · have d3 : (8 : Int) < xs.length := by omega
        go_enter Try.func50, Try.ntmps50
        go_wp2_with fail
        go_ret2
        exact ⟨.inr ⟨saidNo_3 c3, rfl⟩, Below.refl _ _⟩
      · have d3 : (xs.length : Int) ≤ 8 := by omega
        have hT : (textL label.data.toList).length ≤ 20 := by rw [textL_length]; show 4 + label.size ≤ 20; omega
        go_enter Try.func50, Try.ntmps50
        go_wp2_with ((with_reducible refine wpList_alloc_new 110 _ zeroBuilder (some 6) ?hgd ?ho ?hd ?_); (case hgd => rfl); (case ho => rfl); (case hd => rfl); (intro b w1 l1 B1 e1 z1))
        refine (otext_walk label _ (by omega)).mono ?_
        rintro e w2 ⟨r, rfl, tr, hb2⟩
        have hB2 : Bld w2 b [] := (Bld.new B1).below hb2
        have hr : r.size ≤ 20 := by rw [tr.size]; exact hT
        clear B1
        have HB2 := Lib.hid hB2; clear hB2
        go_wp2_with fail
        refine (bld_writeString b [] r _ HB2.out (by simp; omega)).mono ?_
        rintro e w3 ⟨rfl, hB3, hb3⟩
        have HB3 := Lib.hid hB3; clear hB3
        go_wp2_with fail
        refine (bld_writeByte b _ _ _ HB3.out ?_ ?_ ?_).mono ?_
        · omega
        · omega
        · rw [List.nil_append, show r.data.toList = _ from tr]; omega
        rintro e w4 ⟨rfl, hB4, hb4⟩
        have HB4 : Hid (Bld w4 b (saidTo label.data.toList xs 0)) := by
          show Bld w4 b _
          rw [saidTo_zero, ← show r.data.toList = _ from tr]
          have := hB4
          simpa using this
        clear hB4
        have q2 := hb2.size
        have q3 := hb3.size
        have hbel : Below w.heap.size w w4 := ((((e1.mono l1).trans (hb2.mono (by omega))).trans (hb3.mono l1)).trans (hb4.mono l1))
        clear e1 hb2 hb3 hb4 q2 q3
        go_wp2_with fail
        go_loopw [32] (fun i wr => ∃ k : Nat, k ≤ xs.length ∧ i = .int .i64 k ∧ Bld wr b (saidTo label.data.toList xs k) ∧ Below w.heap.size w wr ∧ ∀ (i : Nat) (x : Int), i < k → xs[i]? = some x → 0 ≤ x) (fun i _ => xs.length - (intOf i).toNat)
        case atStart => exact ⟨0, by omega, rfl, HB4.out, hbel, fun i x h => by omega⟩
        case round =>
          clear HB4 hbel
          obtain ⟨k, hk, rfl, hB, hbel, hpos⟩ := hrel
          have HB := Lib.hid hB; clear hB
          have HP := Lib.hid hpos; clear hpos
          have HL := Lib.hid (saidTo_length label.data.toList xs k)
          have hll : label.data.toList.length = label.size := rfl
          have HLL := Lib.hid hll; clear hll
          by_cases hlt : k < xs.length
          · have hlt' : (k : Int) < xs.length := by omega
            obtain ⟨x, hxk⟩ : ∃ x, xs[k]? = some x := ⟨_, List.getElem?_eq_getElem hlt⟩
            have ck : wr.cell? ⟨g, o + k, none⟩ = some (.int .i64 x) := by
              rw [hbel.cell (by show g < w.heap.size; exact hg)]; exact Hc.out k x hxk
            have hx63 := Hx.out k x hxk
            have HX := Lib.hid hxk; clear hxk
            by_cases hneg : x < 0
            · go_wp2_with fail
              refine (oput_neg x 8 _ (by omega) (by omega) hneg).mono ?_
              rintro e w5 ⟨rfl, rfl⟩
              go_wp2_with fail
              go_ret2
              exact ⟨.inr ⟨saidNo_4 HX.out hneg, rfl⟩, hbel⟩
            · obtain ⟨n, hn⟩ : ∃ n : Nat, x = (n : Int) := ⟨x.toNat, by omega⟩
              subst hn
              go_wp2_with fail
              refine (oput n 8 _ (by omega) (by omega) (by omega) (by omega)).mono ?_
              rintro e w5 ⟨p, rfl, tp, hb5⟩
              have hp : p.size ≤ 8 := by rw [tp.size, beBytes_length]; omega
              go_wp2_with fail
              refine (bld_writeString b _ p _ (HB.out.below hb5) (by have := HL.out; have := HLL.out; omega)).mono ?_
              rintro e w6 ⟨rfl, hB6, hb6⟩
              have HB6 := Lib.hid hB6; clear hB6
              have q5 := hb5.size
              have q0 := hbel.size
              have hbel6 : Below w.heap.size w w6 := (hbel.trans (hb5.mono q0)).trans (hb6.mono l1)
              clear q5 q0
              go_wp2_with fail
              go_roundw
              case rel =>
                refine ⟨k + 1, by omega, by go_num, ?_, hbel6, ?_⟩
                · rw [saidTo_succ _ _ _ _ HX.out, Int.toNat_natCast, ← show p.data.toList = _ from tp]; exact HB6.out
                · intro i y hi hy
                  by_cases e : i = k
                  · rw [e] at hy
                    have h2 := Option.some.inj (HX.out.symm.trans hy)
                    omega
                  · exact HP.out i y (by omega) hy
              case measure => simp [intOf]; omega
          · obtain rfl : k = xs.length := by omega
            go_wp2_with fail
            refine (bld_string b _ _ HB.out).mono ?_
            rintro e w5 ⟨q, rfl, tq, hb5⟩
            go_wp2_with fail
            go_ret2
            refine ⟨.inl ⟨saidOk_of (show 1 ≤ label.size by omega) (show label.size ≤ 16 by omega) (by omega) (fun i x h => HP.out i x (List.getElem?_eq_some_iff.1 h).1 h), q, rfl, tq.cast (saidTo_all _ _)⟩, hbel.trans (hb5.mono l1)⟩

theorem said_walk (label : ByteArray) (v : Value) (xs : List Int) (w : World) (h : IntRow w v xs) (hx : ∀ (j : Nat) (x : Int), xs[j]? = some x → x < 9223372036854775808) (hxl : xs.length ≤ 1073741824) :
    Calls Try.prog 50 #[.string label, v] w fun e w' => SaidEnd label.data.toList xs e ∧ Below w.heap.size w w' := by
  rcases h with ⟨rfl, p, c, rfl⟩ | ⟨g, o, c, rfl, hg, hc⟩
  · exact said_nil label p c w
  · exact said_row label g o c xs w hg hc hx hxl
end Go.Proofs.Ytacoibiafpdoaaa
