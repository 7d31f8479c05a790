/- Walks of chain.Said, Tag and the documents' Said, Tag (chapter 20). Walks of chain.Tag, Begin, Follow, and the documents' Tag (chapter 20). Walks of sha.Sum of nothing, chain.Sum; the example of chapter 20. What a statement's parameters hand to its walk: a record by value. What a statement's parameters hand to its walk: a row of sealed records. Walk of the documents' Few (chapter 20). -/
import Derived.Test.YtkdplgcffdaoaaaWRec5
import Derived.Test.YtkdplgcffdaoaaaG5
import Derived.Test.YtkdplgcffdaoaaaG3
import Derived.Test.YtkdplgcffdaoaaaG1
import Derived.Lib.SmallJoins
import Derived.Deep.Fields
import Derived.Deep.QuietTactic
import Derived.BigQuiet
namespace Go.Proofs.Ytkdplgcffdaoaaa
set_option linter.unusedSimpArgs false
set_option linter.unusedVariables false
open Go Go.RowKit
set_option linter.unusedVariables false

/-- What is said of a record. -/
def saidC (was : List UInt8) (seq : Int) (r : Rec) : List UInt8 := was ++ beBytes 4 seq.toNat ++ recPut r
def saidCOk (was : ByteArray) (seq : Int) (r : Rec) : Prop := was.size = 32 ∧ 0 ≤ seq ∧ seq ≤ 4294967295 ∧ recOk r = true
instance (was : ByteArray) (seq : Int) (r : Rec) : Decidable (saidCOk was seq r) := by unfold saidCOk; infer_instance
/-- A text and true, or no text and false. -/
def EndsB (ok : Prop) (l : List UInt8) (e : Ending) : Prop :=
  (ok ∧ ∃ r, e = .returned (.tuple #[.string r, .bool true]) ∧ Txt r l) ∨ (¬ ok ∧ e = .returned (.tuple #[.string ⟨#[]⟩, .bool false]))
theorem EndsB.yes {ok : Prop} {l : List UInt8} {e : Ending} (h : EndsB ok l e) (ho : ok) : ∃ r, e = .returned (.tuple #[.string r, .bool true]) ∧ Txt r l := by
  rcases h with ⟨_, h⟩ | ⟨h, _⟩
  · exact h
  · exact absurd ho h
theorem EndsB.no {ok : Prop} {l : List UInt8} {e : Ending} (h : EndsB ok l e) (ho : ¬ ok) : e = .returned (.tuple #[.string ⟨#[]⟩, .bool false]) := by
  rcases h with ⟨h, _⟩ | ⟨_, h⟩
  · exact absurd h ho
  · exact h

theorem recPut_length {r : Rec} (h : recOk r = true) : (recPut r).length ≤ 85 := by
  have := recOk_facts h
  have e1 : r.root.data.toList.length = r.root.size := rfl
  have e2 : r.name.data.toList.length = r.name.size := rfl
  unfold recPut
  rw [List.length_append, List.length_append, packL_length_rec, textL_length, textL_length]
  omega

theorem oput4_walk (n : Int) (w : World) (hf : Fits n) :
    Calls Try.prog 57 #[.int .i64 n, .int .i64 4] w fun e w' => Ends (0 ≤ n ∧ n ≤ 4294967295) (beBytes 4 n.toNat) 2 e ∧ Below w.heap.size w w' := by
  by_cases c1 : 0 ≤ n ∧ n ≤ 4294967295
  · obtain ⟨m, rfl⟩ : ∃ m : Nat, n = (m : Int) := ⟨n.toNat, by omega⟩
    refine (oput m 4 w (by omega) (by omega) (by omega) (fun _ => by show m < 4294967296; omega)).mono ?_
    rintro e w1 ⟨r, rfl, tr, hb⟩
    exact ⟨.inl ⟨c1, r, rfl, tr⟩, hb⟩
  · by_cases c2 : n < 0
    · go_enter Try.func57, Try.ntmps57
      go_wp2_with fail
      go_ret2
      exact ⟨.inr ⟨c1, rfl⟩, Below.refl _ _⟩
    · have d2 : 0 ≤ n := by omega
      have d3 : 4294967296 ≤ n := by omega
      have d4 : (0 : Int) < n / 4294967296 := by omega
      go_enter Try.func57, Try.ntmps57
      go_wp2_with fail
      go_ret2
      exact ⟨.inr ⟨by omega, rfl⟩, Below.refl _ _⟩

end Go.Proofs.Ytkdplgcffdaoaaa
namespace Go.Proofs.Ytkdplgcffdaoaaa
set_option linter.unusedSimpArgs false
set_option linter.unusedVariables false
open Go Go.RowKit
set_option linter.unusedVariables false

/-- A record's tag. -/
def tagC (key was : List UInt8) (seq : Int) (r : Rec) : List UInt8 := mac (madeL key [109, 97, 99] []) (saidC was seq r)
theorem tagC_length (key was : List UInt8) (seq : Int) (r : Rec) : (tagC key was seq r).length = 32 := mac_length _ _

/-- A row of records. -/
def RecRow (w : World) (v : Value) (l : List Rec) : Prop :=
  (l = [] ∧ ∃ (p : Option Addr) (c : Nat), v = .slice p 0 c) ∨
  ∃ g o c, v = .slice (some ⟨g, o, none⟩) l.length c ∧ g < w.heap.size ∧ ∀ (j : Nat) (r : Rec), l[j]? = some r → w.rangeAt g (o + j * 8) r.cells

theorem rec_cells {w : World} {g o : Nat} {r : Rec} (h : w.rangeAt g o r.cells) :
    w.cell? ⟨g, o, none⟩ = some (.int .i64 r.kind) ∧ w.cell? ⟨g, o + 1, none⟩ = some (.int .i64 r.epoch) ∧ w.cell? ⟨g, o + 2, none⟩ = some (.int .i64 r.time) ∧ w.cell? ⟨g, o + 3, none⟩ = some (.int .i64 r.count) ∧
    w.cell? ⟨g, o + 4, none⟩ = some (.int .i64 r.target) ∧ w.cell? ⟨g, o + 5, none⟩ = some (.int .i64 r.till) ∧ w.cell? ⟨g, o + 6, none⟩ = some (.string r.root) ∧ w.cell? ⟨g, o + 7, none⟩ = some (.string r.name) :=
  ⟨h 0 _ rfl, h 1 _ rfl, h 2 _ rfl, h 3 _ rfl, h 4 _ rfl, h 5 _ rfl, h 6 _ rfl, h 7 _ rfl⟩

/-- Do records follow on each other? The open epoch, the place, the error. -/
def followGo (epoch now : Int) (i : Nat) : List Rec → Int × Nat × Int
  | [] => (epoch, i, 0)
  | r :: l => if recOk r = true ∧ r.epoch = epoch ∧ now ≤ r.time then followGo (if r.kind = 1 then epoch + 1 else epoch) r.time (i + 1) l else (epoch, i, 16)

end Go.Proofs.Ytkdplgcffdaoaaa
namespace Go.Proofs.Ytkdplgcffdaoaaa
set_option linter.unusedSimpArgs false
set_option linter.unusedVariables false
open Go Go.RowKit
set_option linter.unusedVariables false

/-- A sealed record. -/
structure Sld where
  r : Rec
  tag : ByteArray
def Sld.cells (x : Sld) : List Value := [.int .i64 x.r.kind, .int .i64 x.r.epoch, .int .i64 x.r.time, .int .i64 x.r.count, .int .i64 x.r.target, .int .i64 x.r.till, .string x.r.root, .string x.r.name, .string x.tag]
/-- A row of sealed records. -/
def SldRow (w : World) (v : Value) (l : List Sld) : Prop :=
  (l = [] ∧ ∃ (p : Option Addr) (c : Nat), v = .slice p 0 c) ∨
  ∃ g o c, v = .slice (some ⟨g, o, none⟩) l.length c ∧ l.length ≤ c ∧ g < w.heap.size ∧ ∀ (j : Nat) (x : Sld), l[j]? = some x → w.rangeAt g (o + j * 9) x.cells
theorem SldRow.below {w w' : World} {v : Value} {l : List Sld} (h : SldRow w v l) {B : Nat} (hb : Below B w w') (hB : w.heap.size ≤ B) : SldRow w' v l := by
  refine h.imp id ?_
  rintro ⟨g, o, c, h1, hc, h2, h3⟩
  exact ⟨g, o, c, h1, hc, by have := hb.size; omega, fun j x hx i u hu => by rw [hb.cell (by show g < B; omega)]; exact h3 j x hx i u hu⟩
theorem SldRow.shape {w : World} {v : Value} {l : List Sld} (h : SldRow w v l) : ∃ (p : Option Addr) (c : Nat), v = .slice p l.length c := by
  rcases h with ⟨rfl, p, c, rfl⟩ | ⟨g, o, c, rfl, _⟩
  · exact ⟨p, c, rfl⟩
  · exact ⟨_, c, rfl⟩
theorem sld_cells {w : World} {g o : Nat} {x : Sld} (h : w.rangeAt g o x.cells) :
    w.cell? ⟨g, o, none⟩ = some (.int .i64 x.r.kind) ∧ w.cell? ⟨g, o + 1, none⟩ = some (.int .i64 x.r.epoch) ∧ w.cell? ⟨g, o + 2, none⟩ = some (.int .i64 x.r.time) ∧ w.cell? ⟨g, o + 3, none⟩ = some (.int .i64 x.r.count) ∧
    w.cell? ⟨g, o + 4, none⟩ = some (.int .i64 x.r.target) ∧ w.cell? ⟨g, o + 5, none⟩ = some (.int .i64 x.r.till) ∧ w.cell? ⟨g, o + 6, none⟩ = some (.string x.r.root) ∧ w.cell? ⟨g, o + 7, none⟩ = some (.string x.r.name) ∧ w.cell? ⟨g, o + 8, none⟩ = some (.string x.tag) :=
  ⟨h 0 _ rfl, h 1 _ rfl, h 2 _ rfl, h 3 _ rfl, h 4 _ rfl, h 5 _ rfl, h 6 _ rfl, h 7 _ rfl, h 8 _ rfl⟩

/-- All tags in one. -/
def sumT (l : List Sld) : List UInt8 := l.foldl (fun s x => sha (s ++ x.tag.data.toList)) (sha [])
theorem sumT_length (l : List Sld) : (sumT l).length = 32 := by
  rcases List.eq_nil_or_concat l with rfl | ⟨l, x, rfl⟩
  · exact sha_length _
  · simp [sumT, sha_length]
theorem sumT_take (l : List Sld) (k : Nat) (x : Sld) (h : l[k]? = some x) : sumT (l.take (k + 1)) = sha (sumT (l.take k) ++ x.tag.data.toList) := by
  obtain ⟨h1, rfl⟩ := List.getElem?_eq_some_iff.1 h
  unfold sumT
  rw [List.take_succ_eq_append_getElem h1, List.foldl_append]
  rfl

def closeRec (r : ByteArray) : Rec := ⟨1, 5, 0, 0, 0, 0, r, ⟨#[]⟩⟩

end Go.Proofs.Ytkdplgcffdaoaaa
namespace Go.Proofs.Ytkdplgcffdaoaaa
set_option linter.unusedSimpArgs false
set_option linter.unusedVariables false
open Go Go.RowKit Go.ChangeShapes Go.WideShapes Go.Deep
set_option linter.unusedVariables false

/-- A record whose numbers fit. -/
structure RecFits (r : Rec) : Prop where
  kind : Fits r.kind
  epoch : Fits r.epoch
  time : Fits r.time
  count : Fits r.count
  target : Fits r.target
  till : Fits r.till

section
variable {H : Type} {enc : TypeId × Value → H} {w : World} {base : Nat} {spare : Nat → Bool} {held : Bool}
set_option maxRecDepth 100000 in
theorem rec_trod {fuel : Nat} {cs : List Value} {x : DataW H × List MemPlace} (h : DataW.trod enc Try.prog w base spare held fuel 25 cs = some x) : ∃ r : Rec, cs = r.cells ∧ RecFits r := by
  obtain ⟨xs, n, _, _, hl, hlen, hf⟩ := DataW.trod_struct Try.underlying25 h
  have hc : Try.prog.cellsOf 25 = 8 := by kernel_rfl
  have k1 : Try.prog.cellsOf 3 = 1 := by kernel_rfl
  have k2 : Try.prog.cellsOf 9 = 1 := by kernel_rfl
  rw [hc] at hl
  match cs, hl with
  | [c0, c1, c2, c3, c4, c5, c6, c7], _ =>
    match xs, hlen with
    | [y0, y1, y2, y3, y4, y5, y6, y7], _ =>
      have g0 : DataW.trod enc Try.prog w base spare held n 3 (List.take (Try.prog.cellsOf 3) (List.drop 0 [c0, c1, c2, c3, c4, c5, c6, c7])) = some y0 := hf 0 _ rfl
      rw [k1] at g0
      have g1 : DataW.trod enc Try.prog w base spare held n 3 (List.take (Try.prog.cellsOf 3) (List.drop 1 [c0, c1, c2, c3, c4, c5, c6, c7])) = some y1 := hf 1 _ rfl
      rw [k1] at g1
      have g2 : DataW.trod enc Try.prog w base spare held n 3 (List.take (Try.prog.cellsOf 3) (List.drop 2 [c0, c1, c2, c3, c4, c5, c6, c7])) = some y2 := hf 2 _ rfl
      rw [k1] at g2
      have g3 : DataW.trod enc Try.prog w base spare held n 3 (List.take (Try.prog.cellsOf 3) (List.drop 3 [c0, c1, c2, c3, c4, c5, c6, c7])) = some y3 := hf 3 _ rfl
      rw [k1] at g3
      have g4 : DataW.trod enc Try.prog w base spare held n 3 (List.take (Try.prog.cellsOf 3) (List.drop 4 [c0, c1, c2, c3, c4, c5, c6, c7])) = some y4 := hf 4 _ rfl
      rw [k1] at g4
      have g5 : DataW.trod enc Try.prog w base spare held n 3 (List.take (Try.prog.cellsOf 3) (List.drop 5 [c0, c1, c2, c3, c4, c5, c6, c7])) = some y5 := hf 5 _ rfl
      rw [k1] at g5
      have g6 : DataW.trod enc Try.prog w base spare held n 9 (List.take (Try.prog.cellsOf 9) (List.drop 6 [c0, c1, c2, c3, c4, c5, c6, c7])) = some y6 := hf 6 _ rfl
      rw [k2] at g6
      have g7 : DataW.trod enc Try.prog w base spare held n 9 (List.take (Try.prog.cellsOf 9) (List.drop 7 [c0, c1, c2, c3, c4, c5, c6, c7])) = some y7 := hf 7 _ rfl
      rw [k2] at g7
      obtain ⟨n0, e0, _, f0⟩ := DataW.trod_int Try.underlying3 g0
      obtain ⟨n1, e1, _, f1⟩ := DataW.trod_int Try.underlying3 g1
      obtain ⟨n2, e2, _, f2⟩ := DataW.trod_int Try.underlying3 g2
      obtain ⟨n3, e3, _, f3⟩ := DataW.trod_int Try.underlying3 g3
      obtain ⟨n4, e4, _, f4⟩ := DataW.trod_int Try.underlying3 g4
      obtain ⟨n5, e5, _, f5⟩ := DataW.trod_int Try.underlying3 g5
      obtain ⟨s6, e6, _, _⟩ := DataW.trod_string Try.underlying9 g6
      obtain ⟨s7, e7, _, _⟩ := DataW.trod_string Try.underlying9 g7
      simp at e0 e1 e2 e3 e4 e5 e6 e7
      subst e0 e1 e2 e3 e4 e5 e6 e7
      exact ⟨⟨n0, n1, n2, n3, n4, n5, s6, s7⟩, rfl, ⟨fits_of_wf f0, fits_of_wf f1, fits_of_wf f2, fits_of_wf f3, fits_of_wf f4, fits_of_wf f5⟩⟩

theorem rec_in {v : Value} {d : DataW H} {ps : List MemPlace} (hv : ∃ cs, v = .agg cs ∧ cs.size = Try.prog.cellsOf 25) (h : DataW.Trod enc Try.prog w base spare held 25 v d ps) : ∃ r : Rec, v = r.v ∧ RecFits r := by
  obtain ⟨cs, rfl, _⟩ := hv
  obtain ⟨fuel, hf⟩ := h
  obtain ⟨r, hr, hfit⟩ := rec_trod hf
  refine ⟨r, ?_, hfit⟩
  have : cs.toList = r.cells := by simpa [Value.cells] using hr
  show Value.agg cs = Value.agg r.cells.toArray
  rw [← this]
end
end Go.Proofs.Ytkdplgcffdaoaaa
namespace Go.Proofs.Ytkdplgcffdaoaaa
set_option linter.unusedSimpArgs false
set_option linter.unusedVariables false
open Go Go.RowKit Go.ChangeShapes Go.WideShapes Go.Deep
set_option linter.unusedVariables false

/-- A row of sealed records that came in. -/
structure SldsIn (w : World) (v : Value) (l : List Sld) : Prop where
  row : SldRow w v l
  fits : ∀ (j : Nat) (x : Sld), l[j]? = some x → RecFits x.r

section
variable {H : Type} {enc : TypeId × Value → H} {w : World} {base : Nat} {spare : Nat → Bool} {held : Bool}
set_option maxRecDepth 100000 in
theorem sld_trod {fuel : Nat} {cs : List Value} {x : DataW H × List MemPlace} (h : DataW.trod enc Try.prog w base spare held fuel 27 cs = some x) : ∃ s : Sld, cs = s.cells ∧ RecFits s.r := by
  obtain ⟨xs, n, _, _, hl, hlen, hf⟩ := DataW.trod_struct Try.underlying27 h
  have hc : Try.prog.cellsOf 27 = 9 := by kernel_rfl
  have k1 : Try.prog.cellsOf 25 = 8 := by kernel_rfl
  have k2 : Try.prog.cellsOf 9 = 1 := by kernel_rfl
  rw [hc] at hl
  match xs, hlen with
  | [y0, y1], _ =>
    have g0 : DataW.trod enc Try.prog w base spare held n 25 (List.take (Try.prog.cellsOf 25) (List.drop 0 cs)) = some y0 := hf 0 _ rfl
    have g1 : DataW.trod enc Try.prog w base spare held n 9 (List.take (Try.prog.cellsOf 9) (List.drop 8 cs)) = some y1 := hf 1 _ rfl
    rw [k1] at g0
    rw [k2] at g1
    obtain ⟨r, hr, hfit⟩ := rec_trod g0
    obtain ⟨s, hs, _, _⟩ := DataW.trod_string Try.underlying9 g1
    refine ⟨⟨r, s⟩, ?_, hfit⟩
    have e1 : cs = cs.take 8 ++ cs.drop 8 := (List.take_append_drop 8 cs).symm
    have e2 : (cs.drop 8).take 1 = cs.drop 8 := List.take_of_length_le (by rw [List.length_drop, hl]; omega)
    rw [e1, ← e2, hs]
    rw [List.drop_zero] at hr
    rw [hr]
    rfl

end
theorem SldsIn.below {w w' : World} {v : Value} {l : List Sld} (h : SldsIn w v l) {B : Nat} (hb : Below B w w') (hB : w.heap.size ≤ B) : SldsIn w' v l := ⟨h.row.below hb hB, h.fits⟩
end Go.Proofs.Ytkdplgcffdaoaaa
namespace Go.Proofs.Ytkdplgcffdaoaaa
set_option linter.unusedSimpArgs false
set_option linter.unusedVariables false
open Go Go.RowKit
set_option linter.unusedVariables false

def fewOne (x : Sld) : Nat := min x.tag.size 10000 + min x.r.root.size 10000 + min x.r.name.size 10000
/-- How many bytes sealed records have, of the first hundred. -/
def fewN (l : List Sld) : Nat := ((l.take 100).map fewOne).sum
/-- Are sealed records so few, of so few bytes? -/
def fewS (l : List Sld) : Bool := decide (l.length ≤ 60) && decide (fewN l ≤ 9000)
theorem fewN_snoc (l : List Sld) (k : Nat) (x : Sld) (h : l[k]? = some x) : ((l.take (k + 1)).map fewOne).sum = ((l.take k).map fewOne).sum + fewOne x := by
  obtain ⟨h1, rfl⟩ := List.getElem?_eq_some_iff.1 h
  rw [List.take_succ_eq_append_getElem h1, List.map_append, List.sum_append]
  simp only [List.map_cons, List.map_nil, List.sum_cons, List.sum_nil, Nat.add_zero]
theorem sum_mem_le (l : List Nat) (x : Nat) (h : x ∈ l) : x ≤ l.sum := by
  induction l with
  | nil => simp at h
  | cons a r ih =>
    rw [List.sum_cons]
    rcases List.mem_cons.1 h with rfl | h
    · omega
    · have := ih h; omega
theorem fewS_each {l : List Sld} (h : fewS l = true) (j : Nat) (x : Sld) (hx : l[j]? = some x) : x.tag.size ≤ 9000 ∧ x.r.root.size ≤ 9000 ∧ x.r.name.size ≤ 9000 := by
  simp only [fewS, Bool.and_eq_true, decide_eq_true_eq] at h
  have h1 : fewN l = (l.map fewOne).sum := by unfold fewN; rw [List.take_of_length_le (by omega)]
  have h2 := sum_mem_le (l.map fewOne) (fewOne x) (List.mem_map_of_mem (List.mem_of_getElem? hx))
  rw [h1] at h
  have : fewOne x ≤ 9000 := by omega
  unfold fewOne at this
  omega
theorem fewS_len {l : List Sld} (h : fewS l = true) : l.length ≤ 60 := by
  simp only [fewS, Bool.and_eq_true, decide_eq_true_eq] at h
  exact h.1

end Go.Proofs.Ytkdplgcffdaoaaa
