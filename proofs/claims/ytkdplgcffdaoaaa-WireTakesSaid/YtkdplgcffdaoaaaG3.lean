/- Walks of package hmac. Walks of hmac.Clash and hmac.Parts. Walks of octet.Text, octet.Put where it may not be, and package derive. Walk of derive.Said: what a key is made for, as bytes. Walks of hmac.Parts, derive.Key and derive.Long. What the statements of chapter 03 share: the chapter's example, noughts. What the statements of chapter 04 share: the chapter's example. What a statement's parameters hand to its walk: rows of numbers, rows of texts. -/
import Derived.Test.YtkdplgcffdaoaaaG2
import Derived.Test.YtkdplgcffdaoaaaG1
import Derived.Deep.Slices
import Derived.SliceStrings
import Derived.Carry
namespace Go.Proofs.Ytkdplgcffdaoaaa
set_option linter.unusedSimpArgs false
set_option linter.unusedVariables false
open Go Go.RowKit
set_option linter.unusedVariables false

/-- The first k of these bytes, each held against one. -/
def xorTo (l : List UInt8) (x : UInt8) (k : Nat) : List UInt8 := (l.take k).map (fun c => c ^^^ x) ++ l.drop k
theorem xorTo_length (l : List UInt8) (x : UInt8) (k : Nat) : (xorTo l x k).length = l.length := by simp [xorTo]; omega
theorem xorTo_at (l : List UInt8) (x : UInt8) (k : Nat) (h : k < l.length) : (xorTo l x k)[k]? = some l[k] := by
  unfold xorTo
  rw [List.getElem?_append_right (by simp; omega)]
  simp [Nat.min_eq_left (Nat.le_of_lt h), h]
theorem xorTo_set (l : List UInt8) (x : UInt8) (k : Nat) (h : k < l.length) : (xorTo l x k).set k (l[k] ^^^ x) = xorTo l x (k + 1) := by
  have e : l.drop k = l[k] :: l.drop (k + 1) := List.drop_eq_getElem_cons h
  unfold xorTo
  rw [e, List.set_append_right _ _ (by simp; omega), List.take_succ_eq_append_getElem h, List.map_append, List.append_assoc]
  congr 1
  simp only [List.length_map, List.length_take, Nat.min_eq_left (Nat.le_of_lt h), Nat.sub_self, List.set_cons_zero, List.map_cons, List.map_nil, List.cons_append, List.nil_append]

theorem zeroBytes (w : World) : Sem.run Try.prog (zeroValue 52) w = .ok (.slice none 0 0) w := by kernel_rfl

end Go.Proofs.Ytkdplgcffdaoaaa
namespace Go.Proofs.Ytkdplgcffdaoaaa
set_option linter.unusedSimpArgs false
set_option linter.unusedVariables false
open Go Go.RowKit
set_option linter.unusedVariables false

theorem Txt.toList {r : ByteArray} {l : List UInt8} (h : Txt r l) : r.toList = l := (Lib.toList_data r).trans h
theorem Txt.same {r r' : ByteArray} {l l' : List UInt8} (h : Txt r l) (h' : Txt r' l') (e : l = l') : (r.toList == r'.toList) = true := by
  rw [h.toList, h'.toList, e]; simp
theorem Txt.other {r r' : ByteArray} {l l' : List UInt8} (h : Txt r l) (h' : Txt r' l') (e : l ≠ l') : (r.toList == r'.toList) = false := by
  rw [h.toList, h'.toList]; simpa using e
theorem Txt.is {r : ByteArray} {l l' : List UInt8} (h : Txt r l) (e : l = l') : (r.toList == l') = true := by
  rw [h.toList, e]; simp

theorem mac_clash {k m l n : List UInt8} (ht : mac k m = mac l n) (ho : houter k m = houter l n) : sha (hinner k m) = sha (hinner l n) :=
  (List.append_inj ho (by simp [heldL_length])).2

/-- What is told of two messages of one tag: two unlike texts of one sum. -/
def Told2 (e : Ending) : Prop := ∃ (a b : ByteArray) (x y : List UInt8), e = .returned (.tuple #[.string a, .string b, .bool true]) ∧ Txt a x ∧ Txt b y ∧ x ≠ y ∧ sha x = sha y ∧ a.size ≤ 33554432 ∧ b.size ≤ 33554432

end Go.Proofs.Ytkdplgcffdaoaaa
namespace Go.Proofs.Ytkdplgcffdaoaaa
set_option linter.unusedSimpArgs false
set_option linter.unusedVariables false
open Go Go.RowKit
set_option linter.unusedVariables false

theorem oput_neg (n : Int) (wd : Nat) (w : World) (h1 : 1 ≤ wd) (h2 : wd ≤ 8) (hn : n < 0) :
    Calls Try.prog 57 #[.int .i64 n, .int .i64 wd] w fun e w' => e = .returned (.tuple #[.string ⟨#[]⟩, .int .i64 2]) ∧ w = w' := by
  have e1 : (1 : Int) ≤ wd := by omega
  have e2 : (wd : Int) ≤ 8 := by omega
  go_enter Try.func57, Try.ntmps57
  go_wp2_with fail
  go_ret2
  exact ⟨rfl, rfl⟩

theorem mask32 (n : Nat) (h : n < 4294967296) : bits BinOp.and IntKind.i64 (n : Int) 4294967295 = (n : Int) := by
  have := bits_mask .i64 63 (by decide) (fun x h0 h1 => by rw [IntKind.wrap_i64]; omega) 32 (by decide) (n : Int) (by omega) (by omega)
  refine this.trans ?_
  omega

theorem otext_walk (s : ByteArray) (w : World) (hs : s.size ≤ 1073741824) :
    Calls Try.prog 84 #[.string s] w fun e w' => ∃ r, e = .returned (.string r) ∧ Txt r (textL s.data.toList) ∧ Below w.heap.size w w' := by
  obtain ⟨n, Hn⟩ : ∃ n, Hid (n = s.size) := ⟨_, rfl⟩
  have em : bits BinOp.and IntKind.i64 ((s.size : Nat) : Int) 4294967295 = (n : Int) := by rw [Hn.out]; exact mask32 s.size (by omega)
  have hn : n ≤ 1073741824 := by rw [Hn.out]; exact hs
  go_enter Try.func84, Try.ntmps84
  go_wp2_with fail
  refine (oput n 4 _ (by omega) (by omega) (by omega) (by omega)).mono ?_
  rintro e w1 ⟨r, rfl, tr, hb⟩
  have hr : r.size ≤ 4 := by rw [tr.size, beBytes_length]; omega
  go_wp2_with fail
  go_ret
  refine ⟨_, rfl, (tr.append (Txt.self s)).cast ?_, hb⟩
  rw [Hn.out]; rfl
end Go.Proofs.Ytkdplgcffdaoaaa
namespace Go.Proofs.Ytkdplgcffdaoaaa
set_option linter.unusedSimpArgs false
set_option linter.unusedVariables false
open Go Go.RowKit
set_option linter.unusedVariables false

/-- A row of numbers, as a slice. -/
def IntRow (w : World) (v : Value) (xs : List Int) : Prop :=
  (xs = [] ∧ ∃ (p : Option Addr) (c : Nat), v = .slice p 0 c) ∨
  ∃ g o c, v = .slice (some ⟨g, o, none⟩) xs.length c ∧ g < w.heap.size ∧ ∀ (j : Nat) (x : Int), xs[j]? = some x → w.cell? ⟨g, o + j, none⟩ = some (.int .i64 x)
theorem IntRow.below {w w' : World} {v : Value} {xs : List Int} (h : IntRow w v xs) {B : Nat} (hb : Below B w w') (hB : w.heap.size ≤ B) : IntRow w' v xs := by
  rcases h with h | ⟨g, o, c, h1, h2, h3⟩
  · exact .inl h
  · exact .inr ⟨g, o, c, h1, by have := hb.size; omega, fun j x hx => by rw [hb.cell (by show g < B; omega)]; exact h3 j x hx⟩
theorem IntRow.nil (w : World) : IntRow w (.slice none 0 0) [] := .inl ⟨rfl, _, _, rfl⟩

/-- How Said ends. -/
def SaidEnd (label : List UInt8) (xs : List Int) (e : Ending) : Prop :=
  (saidOk label xs = true ∧ ∃ r, e = .returned (.tuple #[.string r, .int .i64 0]) ∧ Txt r (saidL label (xs.map Int.toNat))) ∨
  (saidOk label xs = false ∧ e = .returned (.tuple #[.string ⟨#[]⟩, .int .i64 2]))

/-- What is said behind k numbers. -/
def saidTo (label : List UInt8) (xs : List Int) (k : Nat) : List UInt8 := textL label ++ [UInt8.ofNat xs.length] ++ ((xs.take k).map Int.toNat).flatMap (beBytes 8)
theorem saidTo_zero (label : List UInt8) (xs : List Int) : saidTo label xs 0 = textL label ++ [UInt8.ofNat xs.length] := by simp [saidTo]
theorem saidTo_succ (label : List UInt8) (xs : List Int) (k : Nat) (x : Int) (h : xs[k]? = some x) : saidTo label xs (k + 1) = saidTo label xs k ++ beBytes 8 x.toNat := by
  obtain ⟨hk, rfl⟩ := List.getElem?_eq_some_iff.1 h
  unfold saidTo
  rw [List.take_succ_eq_append_getElem hk, List.map_append, List.flatMap_append]
  simp
theorem saidTo_all (label : List UInt8) (xs : List Int) : saidTo label xs xs.length = saidL label (xs.map Int.toNat) := by simp [saidTo, saidL]
theorem saidTo_length (label : List UInt8) (xs : List Int) (k : Nat) : (saidTo label xs k).length ≤ 5 + label.length + 8 * xs.length := by
  unfold saidTo
  rw [List.length_append, List.length_append, textL_length, flatMap8_length, List.length_map, List.length_take, List.length_singleton]; omega
theorem saidOk_of {label : List UInt8} {xs : List Int} (h1 : 1 ≤ label.length) (h2 : label.length ≤ 16) (h3 : xs.length ≤ 8) (h4 : ∀ (i : Nat) (x : Int), xs[i]? = some x → 0 ≤ x) : saidOk label xs = true := by
  simp only [saidOk, Bool.and_eq_true, decide_eq_true_eq, List.all_eq_true]
  refine ⟨⟨⟨h1, h2⟩, h3⟩, fun x hx => ?_⟩
  obtain ⟨i, hi⟩ := List.mem_iff_getElem?.1 hx
  exact h4 i x hi
theorem saidNo_1 {label : List UInt8} {xs : List Int} (h : label.length < 1) : saidOk label xs = false := by
  have : decide (1 ≤ label.length) = false := by simpa using h
  simp [saidOk]; omega
theorem saidNo_2 {label : List UInt8} {xs : List Int} (h : 16 < label.length) : saidOk label xs = false := by
  have : decide (label.length ≤ 16) = false := by simpa using h
  simp [saidOk, this]
theorem saidNo_3 {label : List UInt8} {xs : List Int} (h : 8 < xs.length) : saidOk label xs = false := by
  have : decide (xs.length ≤ 8) = false := by simpa using h
  simp [saidOk, this]
theorem saidNo_4 {label : List UInt8} {xs : List Int} {i : Nat} {x : Int} (hi : xs[i]? = some x) (h : x < 0) : saidOk label xs = false := by
  have : xs.all (fun n => decide (0 ≤ n)) = false := by
    rw [List.all_eq_false]
    exact ⟨x, List.mem_iff_getElem?.2 ⟨i, hi⟩, by simpa using h⟩
  simp [saidOk, this]

theorem emptyText {s : ByteArray} (h : s.size < 1) : s.toList = [] := by
  rw [Lib.toList_data]; exact List.eq_nil_of_length_eq_zero (by show s.size = 0; omega)
theorem someText {s : ByteArray} (h : 1 ≤ s.size) : s.toList.isEmpty = false := by
  rw [Lib.toList_data]
  cases e : s.data.toList with
  | nil => have : s.size = 0 := by show s.data.toList.length = 0; rw [e]; rfl
           omega
  | cons a b => rfl

end Go.Proofs.Ytkdplgcffdaoaaa
namespace Go.Proofs.Ytkdplgcffdaoaaa
set_option linter.unusedSimpArgs false
set_option linter.unusedVariables false
open Go Go.RowKit
set_option linter.unusedVariables false

theorem infoString : (Try.prog.info? 9).map (fun i => (i.zero, i.size, i.bytes)) = some (some (.string ⟨#[]⟩), 1, 16) := by kernel_rfl

/-- How Key ends. -/
def KeyEnd (master label : List UInt8) (xs : List Int) (e : Ending) : Prop :=
  (saidOk label xs = true ∧ ∃ r, e = .returned (.tuple #[.string r, .int .i64 0]) ∧ Txt r (mac master (saidL label (xs.map Int.toNat)))) ∨
  (saidOk label xs = false ∧ e = .returned (.tuple #[.string ⟨#[]⟩, .int .i64 2]))

theorem saidOk_len {label : List UInt8} {xs : List Int} (h : saidOk label xs = true) : label.length ≤ 16 ∧ xs.length ≤ 8 ∧ 1 ≤ label.length ∧ ∀ n ∈ xs, 0 ≤ n := by
  simp only [saidOk, Bool.and_eq_true, decide_eq_true_eq, List.all_eq_true] at h
  exact ⟨h.1.1.2, h.1.2, h.1.1.1, h.2⟩

theorem zeroString (w : World) : Sem.run Try.prog (zeroValue 9) w = .ok (.string ⟨#[]⟩) w := by kernel_rfl

/-- How Long ends. -/
def LongEnd (master label : List UInt8) (n : Int) (e : Ending) : Prop :=
  (0 ≤ n ∧ n ≤ 8160 ∧ saidOk label [] = true ∧ ∃ r, e = .returned (.tuple #[.string r, .int .i64 0]) ∧ Txt r (longL master label n.toNat)) ∨
  ((n < 0 ∨ 8160 < n ∨ saidOk label [] = false) ∧ e = .returned (.tuple #[.string ⟨#[]⟩, .int .i64 2]))

end Go.Proofs.Ytkdplgcffdaoaaa
namespace Go.Proofs.Ytkdplgcffdaoaaa
set_option linter.unusedSimpArgs false
set_option linter.unusedVariables false
open Go Go.RowKit
set_option linter.unusedVariables false

theorem noughts_walk (n : Int) (w : World) (h0 : 0 ≤ n) (h1 : n ≤ 1073741824) :
    Calls Try.prog 9 #[.int .i64 n] w fun e w' => ∃ r, e = .returned (.string r) ∧ Txt r (List.replicate n.toNat 0) ∧ Below w.heap.size w w' := by
  by_cases h : n < 1
  · go_enter Try.func9, Try.ntmps9
    go_wp2_with fail
    go_ret
    exact ⟨_, rfl, by rw [show n.toNat = 0 by omega]; rfl, Below.refl _ _⟩
  · obtain ⟨k, hk⟩ : ∃ k : Nat, n = (k : Int) := ⟨n.toNat, by omega⟩
    subst hk
    rw [Int.toNat_natCast]
    have hk1 : (1 : Int) ≤ k := by omega
    go_enter Try.func9, Try.ntmps9
    go_wp2_with (first
      | ((with_reducible refine wpList_make_bytes 52 5 (.tmp 5) (.tmp 5) k (some 6) (k : Int) Try.underlying52 infoByte (by omega) rfl ?hgd ?ho ?hd ?hx ?hy ?_); (case hgd => rfl); (case ho => rfl); (case hd => rfl); (case hx => rfl); (case hy => rfl); (intro g w1 l1 B1 e1' z1); (have HB := Lib.hid B1); (clear B1))
      | ((with_reducible refine wpList_string_bytes 52 9 5 (.tmp 6) (List.replicate k 0) g 0 k k (some 7) Try.underlying52 Try.underlying5 Try.underlying9 HB.out.range List.length_replicate.symm ?hgd ?ho ?hd ?hx ?_); (case hgd => rfl); (case ho => rfl); (case hd => rfl); (case hx => rfl)))
    go_ret
    exact ⟨_, rfl, Txt.mk _, e1'.mono l1⟩

def fox : List UInt8 := [84, 104, 101, 32, 113, 117, 105, 99, 107, 32, 98, 114, 111, 119, 110, 32, 102, 111, 120, 32, 106, 117, 109, 112, 115, 32, 111, 118, 101, 114, 32, 116, 104, 101, 32, 108, 97, 122, 121, 32, 100, 111, 103]
theorem fox_mac : ((mac [107, 101, 121] fox).take 8).drop 0 = [247, 188, 131, 244, 48, 83, 132, 36] := by decide +kernel

end Go.Proofs.Ytkdplgcffdaoaaa
namespace Go.Proofs.Ytkdplgcffdaoaaa
set_option linter.unusedSimpArgs false
set_option linter.unusedVariables false
open Go Go.RowKit
set_option linter.unusedVariables false

theorem infoInt : (Try.prog.info? 3).map (fun i => (i.zero, i.size, i.bytes)) = some (some (.int .i64 0), 1, 8) := by kernel_rfl

theorem IntRow.blk {w : World} {g : Nat} {xs : List Int} {t : TypeId} (h : Blk w g (xs.map (Value.int .i64)) t) {n : Nat} (hn : n = xs.length) (c : Nat) : IntRow w (.slice (some ⟨g, 0, none⟩) n c) xs := by
  subst hn
  refine .inr ⟨g, 0, c, rfl, h.lt, fun j x hx => ?_⟩
  rw [Nat.zero_add]
  exact h.cell (by simp [hx])

theorem said_a1 : saidL [97] [1] = [0, 0, 0, 1, 97, 1, 0, 0, 0, 0, 0, 0, 0, 1] := by decide

end Go.Proofs.Ytkdplgcffdaoaaa
namespace Go.Proofs.Ytkdplgcffdaoaaa
set_option linter.unusedSimpArgs false
set_option linter.unusedVariables false
open Go Go.RowKit Go.ChangeShapes Go.WideShapes
set_option linter.unusedVariables false

/-- A number that fits. -/
def Fits (x : Int) : Prop := -9223372036854775808 ≤ x ∧ x ≤ 9223372036854775807
theorem fits_of_wf {x : Int} (h : (Lit.int .i64 x).wf = true) : Fits x := by
  simp only [Lit.wf, Bool.and_eq_true, decide_eq_true_eq] at h
  exact ⟨h.1, h.2⟩

/-- A row of numbers that came in. -/
structure IntsIn (w : World) (v : Value) (xs : List Int) : Prop where
  row : IntRow w v xs
  fits : ∀ (j : Nat) (x : Int), xs[j]? = some x → Fits x

theorem lt_of_cell {w : World} {b i : Nat} {v : Value} (h : w.cell? ⟨b, i, none⟩ = some v) : b < w.heap.size := by
  by_cases hb : b < w.heap.size
  · exact hb
  · simp [World.cell?, Array.getElem?_eq_none (Nat.not_lt.1 hb)] at h

section
variable {H : Type} {enc : TypeId × Value → H} {P : Program} {w : World} {base : Nat} {spare : Nat → Bool} {held : Bool}

theorem ints_in {t e : TypeId} {v : Value} {d : DataW H} {ps : List MemPlace} (ht : P.underlying t = some (.slice e)) (he : P.underlying e = some (.int .i64)) (hc : P.cellsOf e = 1)
    (hv : ∃ a len cap, v = .slice a len cap) (h : DataW.Trod enc P w base spare held t v d ps) : ∃ xs, IntsIn w v xs := by
  obtain ⟨a0, l0, c0, rfl⟩ := hv
  obtain ⟨fuel, hf⟩ := h
  rcases open_ints ht he hc hf with ⟨hcs, _⟩ | ⟨a, len, cap, zs, hcs, _, hl, hm, hz, _, hcell, hwf⟩
  · simp [Value.cells] at hcs
    obtain ⟨rfl, rfl, rfl⟩ := hcs
    exact ⟨[], .inl ⟨rfl, _, _, rfl⟩, fun j x h => by simp at h⟩
  · simp [Value.cells] at hcs
    obtain ⟨rfl, rfl, rfl⟩ := hcs
    by_cases h0 : l0 = 0
    · subst h0
      exact ⟨[], .inl ⟨rfl, _, _, rfl⟩, fun j x h => by simp at h⟩
    · have hzl : l0 ≤ zs.length := by rw [hz]; split <;> omega
      have h1 := hcell 0 (by omega)
      have hsp := World.cell?_spot h1
      obtain ⟨g, o, s⟩ := a
      simp [Addr.add] at hsp
      subst hsp
      have hlen : (zs.take l0).length = l0 := by simp [hzl]
      refine ⟨zs.take l0, .inr ⟨g, o, c0, by rw [hlen], lt_of_cell (by simpa [Addr.add] using h1), fun j x hx => ?_⟩, fun j x hx => ?_⟩
      · have hj : j < l0 := by have := (List.getElem?_eq_some_iff.1 hx).1; omega
        have := hcell j (by omega)
        rw [List.getElem?_take_of_lt hj] at hx
        rw [List.getD_eq_getElem?_getD, hx] at this
        rw [← Addr.add_mid]
        exact this
      · have hj : j < l0 := by have := (List.getElem?_eq_some_iff.1 hx).1; omega
        rw [List.getElem?_take_of_lt hj] at hx
        exact fits_of_wf (hwf x (List.mem_of_getElem? hx))

/-- A row of texts that came in. -/
structure StrsIn (w : World) (v : Value) (xs : List ByteArray) : Prop where
  row : (xs = [] ∧ ∃ (p : Option Addr) (c : Nat), v = .slice p 0 c) ∨
    ∃ g o c, v = .slice (some ⟨g, o, none⟩) xs.length c ∧ xs.length ≤ c ∧ g < w.heap.size ∧ ∀ (j : Nat) (x : ByteArray), xs[j]? = some x → w.cell? ⟨g, o + j, none⟩ = some (.string x)

theorem strs_in {t e : TypeId} {v : Value} {d : DataW H} {ps : List MemPlace} (ht : P.underlying t = some (.slice e)) (he : P.underlying e = some .string) (hc : P.cellsOf e = 1)
    (hv : ∃ a len cap, v = .slice a len cap) (h : DataW.Trod enc P w base spare held t v d ps) : ∃ xs, StrsIn w v xs := by
  obtain ⟨a0, l0, c0, rfl⟩ := hv
  obtain ⟨fuel, hf⟩ := h
  rcases open_strings ht he hc hf with ⟨hcs, _⟩ | ⟨a, len, cap, zs, hcs, _, hl, hm, hz, _, hcell, hwf⟩
  · simp [Value.cells] at hcs
    obtain ⟨rfl, rfl, rfl⟩ := hcs
    exact ⟨[], ⟨.inl ⟨rfl, _, _, rfl⟩⟩⟩
  · simp [Value.cells] at hcs
    obtain ⟨rfl, rfl, rfl⟩ := hcs
    by_cases h0 : l0 = 0
    · subst h0
      exact ⟨[], ⟨.inl ⟨rfl, _, _, rfl⟩⟩⟩
    · have hzl : l0 ≤ zs.length := by rw [hz]; split <;> omega
      have h1 := hcell 0 (by omega)
      have hsp := World.cell?_spot h1
      obtain ⟨g, o, s⟩ := a
      simp [Addr.add] at hsp
      subst hsp
      have hlen : (zs.take l0).length = l0 := by simp [hzl]
      refine ⟨zs.take l0, ⟨.inr ⟨g, o, c0, by rw [hlen], by omega, lt_of_cell (by simpa [Addr.add] using h1), fun j x hx => ?_⟩⟩⟩
      have hj : j < l0 := by have := (List.getElem?_eq_some_iff.1 hx).1; omega
      have := hcell j (by omega)
      rw [List.getElem?_take_of_lt hj] at hx
      rw [List.getD_eq_getElem?_getD, hx] at this
      rw [← Addr.add_mid]
      exact this

theorem trod_lt' {t : TypeId} {v : Value} {d : DataW H} {ps : List MemPlace} (h : DataW.Trod enc P w base spare held t v d ps) : ∀ x ∈ ps, x.block < w.heap.size := by
  obtain ⟨m, hm⟩ := h
  exact DataW.trod_lt m _ _ _ hm
end

theorem IntsIn.below {w w' : World} {v : Value} {xs : List Int} (h : IntsIn w v xs) {B : Nat} (hb : Below B w w') (hB : w.heap.size ≤ B) : IntsIn w' v xs := ⟨h.row.below hb hB, h.fits⟩
theorem StrsIn.below {w w' : World} {v : Value} {xs : List ByteArray} (h : StrsIn w v xs) {B : Nat} (hb : Below B w w') (hB : w.heap.size ≤ B) : StrsIn w' v xs := by
  refine ⟨h.row.imp id ?_⟩
  rintro ⟨g, o, c, h1, hc, h2, h3⟩
  exact ⟨g, o, c, h1, hc, by have := hb.size; omega, fun j x hx => by rw [hb.cell (by show g < B; omega)]; exact h3 j x hx⟩
end Go.Proofs.Ytkdplgcffdaoaaa
