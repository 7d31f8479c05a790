/- Walks of chain.Said, Tag and the documents' Said, Tag (chapter 20). Walks of chain.Tag, Begin, Follow, and the documents' Tag (chapter 20). Walks of sha.Sum of nothing, chain.Sum; the example of chapter 20. What a statement's parameters hand to its walk: a record by value. What a statement's parameters hand to its walk: a row of sealed records. Walk of the documents' Few (chapter 20). -/
import Derived.Test.YtidekfbgjghcjaaGreatWRec5
import Derived.Test.YtidekfbgjghcjaaGreatG5
import Derived.Test.YtidekfbgjghcjaaGreatG3
import Derived.Test.YtidekfbgjghcjaaGreatG1
import Derived.Lib.SmallJoins
import Derived.Deep.Fields
import Derived.Deep.QuietTactic
import Derived.BigQuiet
namespace Go.Proofs.YtidekfbgjghcjaaGreat
set_option linter.unusedSimpArgs false
set_option linter.unusedVariables false
open Go Go.RowKit

def saidC (was : List UInt8) (seq : Int) (r : Rec) : List UInt8 := was ++ beBytes 4 seq.toNat ++ recPut r
def saidCOk (was : ByteArray) (seq : Int) (r : Rec) : Prop := was.size = 32 ∧ 0 ≤ seq ∧ seq ≤ 4294967295 ∧ recOk r = true
instance (was : ByteArray) (seq : Int) (r : Rec) : Decidable (saidCOk was seq r) := by unfold saidCOk; infer_instance
def EndsB (ok : Prop) (l : List UInt8) (e : Ending) : Prop :=
  (ok ∧ ∃ r, e = .returned (.tuple #[.string r, .bool true]) ∧ Txt r l) ∨ (¬ ok ∧ e = .returned (.tuple #[.string ⟨#[]⟩, .bool false]))
theorem EndsB.yes {ok : Prop} {l : List UInt8} {e : Ending} (h : EndsB ok l e) (ho : ok) : ∃ r, e = .returned (.tuple #[.string r, .bool true]) ∧ Txt r l := by
  rcases h with ⟨_, h⟩ | ⟨h, _⟩
  · exact h
  · exact absurd ho h
theorem recPut_length {r : Rec} (h : recOk r = true) : (recPut r).length ≤ 85 := by
  have := recOk_facts h
  have e1 : r.root.data.toList.length = r.root.size := rfl
  have e2 : r.name.data.toList.length = r.name.size := rfl
  unfold recPut
  rw [List.length_append, List.length_append, packL_length_rec, textL_length, textL_length]
  omega

theorem oput4_walk (n : Int) (w : World) (hf : Fits n) :
    Calls Tryz.prog 151 #[.int .i64 n, .int .i64 4] w fun e w' => Ends (0 ≤ n ∧ n ≤ 4294967295) (beBytes 4 n.toNat) 2 e ∧ Below w.heap.size w w' := by
  by_cases c1 : 0 ≤ n ∧ n ≤ 4294967295
  · obtain ⟨m, rfl⟩ : ∃ m : Nat, n = (m : Int) := ⟨n.toNat, by omega⟩
    refine (oput m 4 w (by omega) (by omega) (by omega) (fun _ => by show m < 4294967296; omega)).mono ?_
    rintro e w1 ⟨r, rfl, tr, hb⟩
    exact ⟨.inl ⟨c1, r, rfl, tr⟩, hb⟩
  · by_cases c2 : n < 0
    · go_enter Tryz.func151, Tryz.ntmps151
      go_wp2_with fail
      go_ret2
      exact ⟨.inr ⟨c1, rfl⟩, Below.refl _ _⟩
    · have d2 : 0 ≤ n := by omega
      have d3 : 4294967296 ≤ n := by omega
      have d4 : (0 : Int) < n / 4294967296 := by omega
      go_enter Tryz.func151, Tryz.ntmps151
      go_wp2_with fail
      go_ret2
      exact ⟨.inr ⟨by omega, rfl⟩, Below.refl _ _⟩

set_option maxHeartbeats 1000000 in
theorem csaid_walk (was : ByteArray) (seq : Int) (r : Rec) (w : World) (hroot : r.root.size ≤ 1048576) (hname : r.name.size ≤ 1048576) (hf : Fits r.epoch) (hs : Fits seq) :
    Calls Tryz.prog 133 #[.string was, .int .i64 seq, r.v] w fun e w' => Ends (saidCOk was seq r) (saidC was.data.toList seq r) 2 e ∧ Below w.heap.size w w' := by
  by_cases c1 : 0 ≤ seq ∧ seq ≤ 4294967295
  rotate_left
  · go_enter Tryz.func133, Tryz.ntmps133
    go_wp2_with ((with_reducible refine wpList_box_new 25 (.tmp 2) r.cells (some 5) ?hgd ?ho ?hd ?hx ?_); (case hgd | ho | hd | hx => rfl); (intro b w0 l0 B0 e0 z0))
    refine (oput4_walk seq _ hs).mono ?_
    rintro e w1 ⟨he, hb1⟩
    have he := he.no c1
    subst he
    go_wp2_with fail
    go_ret2
    exact ⟨.inr ⟨fun h => c1 ⟨h.2.1, h.2.2.1⟩, rfl⟩, (e0.mono l0).trans (hb1.mono (by omega))⟩
  by_cases c2 : was.size = 32
  rotate_left
  · have d2 : ¬ (was.size : Int) = 32 := by omega
    go_enter Tryz.func133, Tryz.ntmps133
    go_wp2_with ((with_reducible refine wpList_box_new 25 (.tmp 2) r.cells (some 5) ?hgd ?ho ?hd ?hx ?_); (case hgd | ho | hd | hx => rfl); (intro b w0 l0 B0 e0 z0))
    refine (oput4_walk seq _ hs).mono ?_
    rintro e w1 ⟨he, hb1⟩
    obtain ⟨q, rfl, tq⟩ := he.yes c1
    clear he
    go_wp2_with fail
    go_ret2
    exact ⟨.inr ⟨fun h => c2 h.1, rfl⟩, (e0.mono l0).trans (hb1.mono (by omega))⟩
  have d2 : (was.size : Int) = 32 := by omega
  have hws : was.size ≤ 32 := by omega
  go_enter Tryz.func133, Tryz.ntmps133
  go_wp2_with ((with_reducible refine wpList_box_new 25 (.tmp 2) r.cells (some 5) ?hgd ?ho ?hd ?hx ?_); (case hgd | ho | hd | hx => rfl); (intro b w0 l0 B0 e0 z0))
  refine (oput4_walk seq _ hs).mono ?_
  rintro e w1 ⟨he, hb1⟩
  obtain ⟨q, rfl, tq⟩ := he.yes c1
  clear he
  have sq : q.size ≤ 4 := by rw [tq.size, beBytes_length]; omega
  have HB := Lib.hid (B0.below hb1 z0); clear B0
  go_wp2_with ((with_reducible refine wpList_load_blk 25 (.tmp 5) b r.cells 25 _ HB.out Tryz.underlying25 rfl rsizeRec ?hgd ?ho ?hx ?_); (case hgd | ho | hx => rfl))
  refine (recput_walk r _ hroot hname hf).mono ?_
  rintro e w2 ⟨⟨hok, p, rfl, tp⟩ | ⟨hno, rfl⟩, hb2⟩
  · have sp : p.size ≤ 85 := by rw [tp.size]; exact recPut_length hok
    have HK := Lib.hid hok; clear hok
    go_wp2_with fail
    go_ret2
    refine ⟨.inl ⟨⟨c2, c1.1, c1.2, HK.out⟩, _, rfl, ((Txt.self was).append tq).append tp⟩, (e0.mono l0).trans ((bt hb1 hb2).mono (by omega))⟩
  · have HK := Lib.hid hno; clear hno
    go_wp2_with fail
    go_ret2
    exact ⟨.inr ⟨fun h => by have := h.2.2.2; rw [HK.out] at this; exact absurd this (by decide), rfl⟩, (e0.mono l0).trans ((bt hb1 hb2).mono (by omega))⟩

set_option maxHeartbeats 1000000 in
theorem rcsaid_walk (was : ByteArray) (seq : Int) (r : Rec) (w : World) (hroot : r.root.size ≤ 1048576) (hname : r.name.size ≤ 1048576) (hf : Fits r.epoch) (hs : Fits seq) (hws0 : was.size ≤ 1048576) :
    Calls Tryz.prog 66 #[.string was, .int .i64 seq, r.v] w fun e w' => EndsB (saidCOk was seq r) (saidC was.data.toList seq r) e ∧ Below w.heap.size w w' := by
  have c256 : ((4 : Int).toNat) = 4 := rfl
  by_cases c2 : was.size = 32
  all_goals
    have d2 : ((was.size : Int) = 32) = (was.size = 32) := by simp only [eq_iff_iff]; omega
    have D2 := Lib.hid c2
    go_enter Tryz.func66, Tryz.ntmps66
    go_wp2_with ((with_reducible refine wpList_box_new 25 (.tmp 2) r.cells (some 5) ?hgd ?ho ?hd ?hx ?_); (case hgd | ho | hd | hx => rfl); (intro b w0 l0 B0 e0 z0))
    refine (rput_walk seq 4 _ (by have := hs.2; omega)).mono ?_
    rintro e w1 ⟨he, hb1⟩
    have HB := Lib.hid (B0.below hb1 z0); clear B0
    rcases he with ⟨c1, q, rfl, tq⟩ | ⟨c1, rfl⟩
    all_goals
      have C1 := Lib.hid c1; clear c1
      go_wp2_with ((with_reducible refine wpList_load_blk 25 (.tmp 5) b r.cells 25 _ HB.out Tryz.underlying25 rfl rsizeRec ?hgd ?ho ?hx ?_); (case hgd | ho | hx => rfl))
      refine (rrecput_walk r _ hroot hname hf).mono ?_
      rintro e w2 ⟨⟨hok, p, rfl, tp⟩ | ⟨hno, rfl⟩, hb2⟩
      all_goals
        try (have sp : p.size ≤ 85 := by rw [tp.size]; exact recPut_length hok)
        try (have sq : q.size ≤ 4 := by rw [tq.size, beBytes_length]; simp)
        try (have HK := Lib.hid hok; clear hok)
        try (have HK := Lib.hid hno; clear hno)
        have hbel := (e0.mono l0).trans ((bt hb1 hb2).mono (show w.heap.size ≤ w0.heap.size by omega))
        go_wp2_with fail
        go_ret2
        first
        | exact ⟨.inl ⟨⟨D2.out, by have := C1.out.1; omega, by have := C1.out.2.2.2; simp at this; omega, HK.out⟩, _, rfl, ((Txt.self was).append (tq.cast rfl)).append tp⟩, hbel⟩
        | exact ⟨.inr ⟨fun h => D2.out h.1, rfl⟩, hbel⟩
        | exact ⟨.inr ⟨fun h => by have := h.2.2.2; rw [HK.out] at this; exact absurd this (by decide), rfl⟩, hbel⟩
        | exact ⟨.inr ⟨fun h => C1.out ⟨h.2.1, by omega, by omega, by have := h.2.2.1; have := h.2.1; show seq.toNat < 4294967296; omega⟩, rfl⟩, hbel⟩
end Go.Proofs.YtidekfbgjghcjaaGreat
namespace Go.Proofs.YtidekfbgjghcjaaGreat
set_option linter.unusedSimpArgs false
set_option linter.unusedVariables false
open Go Go.RowKit

theorem begin_walk (w : World) :
    Calls Tryz.prog 132 #[] w fun e w' => ∃ r, e = .returned (.string r) ∧ Txt r (List.replicate 32 0) ∧ Below w.heap.size w w' := by
  go_enter Tryz.func132, Tryz.ntmps132
  go_wp2_with fail
  refine (repeat0 32 _ (by omega)).mono ?_
  rintro e w1 ⟨r, rfl, tr, hb1⟩
  go_wp2_with fail
  go_ret
  exact ⟨r, rfl, tr, hb1⟩

def followGo (epoch now : Int) (i : Nat) : List Rec → Int × Nat × Int
  | [] => (epoch, i, 0)
  | r :: l => if recOk r = true ∧ r.epoch = epoch ∧ now ≤ r.time then followGo (if r.kind = 1 then epoch + 1 else epoch) r.time (i + 1) l else (epoch, i, 16)

end Go.Proofs.YtidekfbgjghcjaaGreat
namespace Go.Proofs.YtidekfbgjghcjaaGreat
set_option linter.unusedSimpArgs false
set_option linter.unusedVariables false
open Go Go.RowKit

structure Sld where
  r : Rec
  tag : ByteArray
def Sld.cells (x : Sld) : List Value := [.int .i64 x.r.kind, .int .i64 x.r.epoch, .int .i64 x.r.time, .int .i64 x.r.count, .int .i64 x.r.target, .int .i64 x.r.till, .string x.r.root, .string x.r.name, .string x.tag]
def SldRow (w : World) (v : Value) (l : List Sld) : Prop :=
  (l = [] ∧ ∃ (p : Option Addr) (c : Nat), v = .slice p 0 c) ∨
  ∃ g o c, v = .slice (some ⟨g, o, none⟩) l.length c ∧ l.length ≤ c ∧ g < w.heap.size ∧ ∀ (j : Nat) (x : Sld), l[j]? = some x → w.rangeAt g (o + j * 9) x.cells
theorem SldRow.below {w w' : World} {v : Value} {l : List Sld} (h : SldRow w v l) {B : Nat} (hb : Below B w w') (hB : w.heap.size ≤ B) : SldRow w' v l := by
  refine h.imp id ?_
  rintro ⟨g, o, c, h1, hc, h2, h3⟩
  exact ⟨g, o, c, h1, hc, by have := hb.size; omega, fun j x hx i u hu => by rw [hb.cell (by show g < B; omega)]; exact h3 j x hx i u hu⟩
theorem SldRow.shape {w : World} {v : Value} {l : List Sld} (h : SldRow w v l) : ∃ (p : Option Addr) (c : Nat), v = .slice p l.length c := by
  rcases h with ⟨rfl, p, c, rfl⟩ | ⟨g, o, c, rfl, _⟩
  · exact ⟨p, c, rfl⟩
  · exact ⟨_, c, rfl⟩
theorem sld_cells {w : World} {g o : Nat} {x : Sld} (h : w.rangeAt g o x.cells) :
    w.cell? ⟨g, o, none⟩ = some (.int .i64 x.r.kind) ∧ w.cell? ⟨g, o + 1, none⟩ = some (.int .i64 x.r.epoch) ∧ w.cell? ⟨g, o + 2, none⟩ = some (.int .i64 x.r.time) ∧ w.cell? ⟨g, o + 3, none⟩ = some (.int .i64 x.r.count) ∧
    w.cell? ⟨g, o + 4, none⟩ = some (.int .i64 x.r.target) ∧ w.cell? ⟨g, o + 5, none⟩ = some (.int .i64 x.r.till) ∧ w.cell? ⟨g, o + 6, none⟩ = some (.string x.r.root) ∧ w.cell? ⟨g, o + 7, none⟩ = some (.string x.r.name) ∧ w.cell? ⟨g, o + 8, none⟩ = some (.string x.tag) :=
  ⟨h 0 _ rfl, h 1 _ rfl, h 2 _ rfl, h 3 _ rfl, h 4 _ rfl, h 5 _ rfl, h 6 _ rfl, h 7 _ rfl, h 8 _ rfl⟩

end Go.Proofs.YtidekfbgjghcjaaGreat
namespace Go.Proofs.YtidekfbgjghcjaaGreat
set_option linter.unusedSimpArgs false
set_option linter.unusedVariables false
open Go Go.RowKit Go.ChangeShapes Go.WideShapes Go.Deep

structure RecFits (r : Rec) : Prop where
  kind : Fits r.kind
  epoch : Fits r.epoch
  time : Fits r.time
  count : Fits r.count
  target : Fits r.target
  till : Fits r.till

section
variable {H : Type} {enc : TypeId × Value → H} {w : World} {base : Nat} {spare : Nat → Bool} {held : Bool}
set_option maxRecDepth 100000 in
theorem rec_trod {fuel : Nat} {cs : List Value} {x : DataW H × List MemPlace} (h : DataW.trod enc Tryz.prog w base spare held fuel 25 cs = some x) : ∃ r : Rec, cs = r.cells ∧ RecFits r := by
  obtain ⟨xs, n, _, _, hl, hlen, hf⟩ := DataW.trod_struct Tryz.underlying25 h
  have hc : Tryz.prog.cellsOf 25 = 8 := by kernel_rfl
  have k1 : Tryz.prog.cellsOf 3 = 1 := by kernel_rfl
  have k2 : Tryz.prog.cellsOf 9 = 1 := by kernel_rfl
  rw [hc] at hl
  match cs, hl with
  | [c0, c1, c2, c3, c4, c5, c6, c7], _ =>
    match xs, hlen with
    | [y0, y1, y2, y3, y4, y5, y6, y7], _ =>
      have g0 : DataW.trod enc Tryz.prog w base spare held n 3 (List.take (Tryz.prog.cellsOf 3) (List.drop 0 [c0, c1, c2, c3, c4, c5, c6, c7])) = some y0 := hf 0 _ rfl
      rw [k1] at g0
      have g1 : DataW.trod enc Tryz.prog w base spare held n 3 (List.take (Tryz.prog.cellsOf 3) (List.drop 1 [c0, c1, c2, c3, c4, c5, c6, c7])) = some y1 := hf 1 _ rfl
      rw [k1] at g1
      have g2 : DataW.trod enc Tryz.prog w base spare held n 3 (List.take (Tryz.prog.cellsOf 3) (List.drop 2 [c0, c1, c2, c3, c4, c5, c6, c7])) = some y2 := hf 2 _ rfl
      rw [k1] at g2
      have g3 : DataW.trod enc Tryz.prog w base spare held n 3 (List.take (Tryz.prog.cellsOf 3) (List.drop 3 [c0, c1, c2, c3, c4, c5, c6, c7])) = some y3 := hf 3 _ rfl
      rw [k1] at g3
      have g4 : DataW.trod enc Tryz.prog w base spare held n 3 (List.take (Tryz.prog.cellsOf 3) (List.drop 4 [c0, c1, c2, c3, c4, c5, c6, c7])) = some y4 := hf 4 _ rfl
      rw [k1] at g4
      have g5 : DataW.trod enc Tryz.prog w base spare held n 3 (List.take (Tryz.prog.cellsOf 3) (List.drop 5 [c0, c1, c2, c3, c4, c5, c6, c7])) = some y5 := hf 5 _ rfl
      rw [k1] at g5
      have g6 : DataW.trod enc Tryz.prog w base spare held n 9 (List.take (Tryz.prog.cellsOf 9) (List.drop 6 [c0, c1, c2, c3, c4, c5, c6, c7])) = some y6 := hf 6 _ rfl
      rw [k2] at g6
      have g7 : DataW.trod enc Tryz.prog w base spare held n 9 (List.take (Tryz.prog.cellsOf 9) (List.drop 7 [c0, c1, c2, c3, c4, c5, c6, c7])) = some y7 := hf 7 _ rfl
      rw [k2] at g7
      obtain ⟨n0, e0, _, f0⟩ := DataW.trod_int Tryz.underlying3 g0
      obtain ⟨n1, e1, _, f1⟩ := DataW.trod_int Tryz.underlying3 g1
      obtain ⟨n2, e2, _, f2⟩ := DataW.trod_int Tryz.underlying3 g2
      obtain ⟨n3, e3, _, f3⟩ := DataW.trod_int Tryz.underlying3 g3
      obtain ⟨n4, e4, _, f4⟩ := DataW.trod_int Tryz.underlying3 g4
      obtain ⟨n5, e5, _, f5⟩ := DataW.trod_int Tryz.underlying3 g5
      obtain ⟨s6, e6, _, _⟩ := DataW.trod_string Tryz.underlying9 g6
      obtain ⟨s7, e7, _, _⟩ := DataW.trod_string Tryz.underlying9 g7
      simp at e0 e1 e2 e3 e4 e5 e6 e7
      subst e0 e1 e2 e3 e4 e5 e6 e7
      exact ⟨⟨n0, n1, n2, n3, n4, n5, s6, s7⟩, rfl, ⟨fits_of_wf f0, fits_of_wf f1, fits_of_wf f2, fits_of_wf f3, fits_of_wf f4, fits_of_wf f5⟩⟩

end
end Go.Proofs.YtidekfbgjghcjaaGreat
namespace Go.Proofs.YtidekfbgjghcjaaGreat
set_option linter.unusedSimpArgs false
set_option linter.unusedVariables false
open Go Go.RowKit Go.ChangeShapes Go.WideShapes Go.Deep

structure SldsIn (w : World) (v : Value) (l : List Sld) : Prop where
  row : SldRow w v l
  fits : ∀ (j : Nat) (x : Sld), l[j]? = some x → RecFits x.r

section
variable {H : Type} {enc : TypeId × Value → H} {w : World} {base : Nat} {spare : Nat → Bool} {held : Bool}
set_option maxRecDepth 100000 in
theorem sld_trod {fuel : Nat} {cs : List Value} {x : DataW H × List MemPlace} (h : DataW.trod enc Tryz.prog w base spare held fuel 27 cs = some x) : ∃ s : Sld, cs = s.cells ∧ RecFits s.r := by
  obtain ⟨xs, n, _, _, hl, hlen, hf⟩ := DataW.trod_struct Tryz.underlying27 h
  have hc : Tryz.prog.cellsOf 27 = 9 := by kernel_rfl
  have k1 : Tryz.prog.cellsOf 25 = 8 := by kernel_rfl
  have k2 : Tryz.prog.cellsOf 9 = 1 := by kernel_rfl
  rw [hc] at hl
  match xs, hlen with
  | [y0, y1], _ =>
    have g0 : DataW.trod enc Tryz.prog w base spare held n 25 (List.take (Tryz.prog.cellsOf 25) (List.drop 0 cs)) = some y0 := hf 0 _ rfl
    have g1 : DataW.trod enc Tryz.prog w base spare held n 9 (List.take (Tryz.prog.cellsOf 9) (List.drop 8 cs)) = some y1 := hf 1 _ rfl
    rw [k1] at g0
    rw [k2] at g1
    obtain ⟨r, hr, hfit⟩ := rec_trod g0
    obtain ⟨s, hs, _, _⟩ := DataW.trod_string Tryz.underlying9 g1
    refine ⟨⟨r, s⟩, ?_, hfit⟩
    have e1 : cs = cs.take 8 ++ cs.drop 8 := (List.take_append_drop 8 cs).symm
    have e2 : (cs.drop 8).take 1 = cs.drop 8 := List.take_of_length_le (by rw [List.length_drop, hl]; omega)
    rw [e1, ← e2, hs]
    rw [List.drop_zero] at hr
    rw [hr]
    rfl

theorem slds_in {v : Value} {d : DataW H} {ps : List MemPlace} (hv : ∃ a len cap, v = .slice a len cap) (h : DataW.Trod enc Tryz.prog w base spare held 52 v d ps) : ∃ l, SldsIn w v l := by
  obtain ⟨a0, l0, c0, rfl⟩ := hv
  obtain ⟨fuel, hf⟩ := h
  rcases open_slice Tryz.underlying52 hf with ⟨hcs, _⟩ | ⟨a, len, cap, m, n, D, Pl, hcs, _, hl, hm, hmm, _, hi⟩
  · simp [Value.cells] at hcs
    obtain ⟨rfl, rfl, rfl⟩ := hcs
    exact ⟨[], ⟨.inl ⟨rfl, _, _, rfl⟩, fun j x h => by simp at h⟩⟩
  · simp [Value.cells] at hcs
    obtain ⟨rfl, rfl, rfl⟩ := hcs
    have hc : Tryz.prog.cellsOf 27 = 9 := by kernel_rfl
    rw [hc] at hi
    by_cases h0 : l0 = 0
    · subst h0
      exact ⟨[], ⟨.inl ⟨rfl, _, _, rfl⟩, fun j x h => by simp at h⟩⟩
    · have hlm : l0 ≤ m := by rw [hmm]; split <;> omega
      have each : ∀ i, i < m → ∃ s : Sld, (∀ j u, s.cells[j]? = some u → w.cell? (a.add (i * 9 + j)) = some u) ∧ RecFits s.r := by
        intro i him
        obtain ⟨cs', h1, h2⟩ := hi i him
        obtain ⟨s, hs, hfit⟩ := sld_trod h2
        refine ⟨s, fun j u hu => ?_, hfit⟩
        obtain ⟨_, hlen, hat⟩ := World.cells?_some h1
        have hj := (List.getElem?_eq_some_iff.1 hu).1
        have := hat j (by rw [hs] at hlen; omega)
        rw [Deep.add_add] at this
        rw [this, hs, hu]
      haveI : Inhabited Sld := ⟨⟨Rec.zero, ⟨#[]⟩⟩⟩
      obtain ⟨f, hfn⟩ := choose_lt each
      obtain ⟨s0, hs0⟩ : ∃ s0, s0 = f 0 := ⟨_, rfl⟩
      have h1 := (hfn 0 (by omega)).1 0 _ rfl
      rw [Nat.zero_mul] at h1
      have hsp := World.cell?_spot h1
      obtain ⟨g, o, s⟩ := a
      simp [Addr.add] at hsp
      subst hsp
      refine ⟨(List.range l0).map f, ⟨.inr ⟨g, o, c0, by simp, by simpa using hl, lt_of_cell (by simpa [Addr.add] using h1), fun j x hx => ?_⟩, fun j x hx => ?_⟩⟩
      · obtain ⟨hj, rfl⟩ := List.getElem?_eq_some_iff.1 hx
        simp at hj
        intro i u hu
        have := (hfn j (by omega)).1 i u (by simpa using hu)
        rw [Addr.add_mid] at this
        rw [Nat.add_assoc]
        exact this
      · obtain ⟨hj, rfl⟩ := List.getElem?_eq_some_iff.1 hx
        simp at hj
        simpa using (hfn j (by omega)).2
end
end Go.Proofs.YtidekfbgjghcjaaGreat
namespace Go.Proofs.YtidekfbgjghcjaaGreat
set_option linter.unusedSimpArgs false
set_option linter.unusedVariables false
open Go Go.RowKit

def fewOne (x : Sld) : Nat := min x.tag.size 10000 + min x.r.root.size 10000 + min x.r.name.size 10000
def fewN (l : List Sld) : Nat := ((l.take 100).map fewOne).sum
def fewS (l : List Sld) : Bool := decide (l.length ≤ 60) && decide (fewN l ≤ 9000)
theorem fewN_snoc (l : List Sld) (k : Nat) (x : Sld) (h : l[k]? = some x) : ((l.take (k + 1)).map fewOne).sum = ((l.take k).map fewOne).sum + fewOne x := by
  obtain ⟨h1, rfl⟩ := List.getElem?_eq_some_iff.1 h
  rw [List.take_succ_eq_append_getElem h1, List.map_append, List.sum_append]
  simp only [List.map_cons, List.map_nil, List.sum_cons, List.sum_nil, Nat.add_zero]
theorem sum_mem_le (l : List Nat) (x : Nat) (h : x ∈ l) : x ≤ l.sum := by
  induction l with
  | nil => simp at h
  | cons a r ih =>
    rw [List.sum_cons]
    rcases List.mem_cons.1 h with rfl | h
    · omega
    · have := ih h; omega
theorem fewS_each {l : List Sld} (h : fewS l = true) (j : Nat) (x : Sld) (hx : l[j]? = some x) : x.tag.size ≤ 9000 ∧ x.r.root.size ≤ 9000 ∧ x.r.name.size ≤ 9000 := by
  simp only [fewS, Bool.and_eq_true, decide_eq_true_eq] at h
  have h1 : fewN l = (l.map fewOne).sum := by unfold fewN; rw [List.take_of_length_le (by omega)]
  have h2 := sum_mem_le (l.map fewOne) (fewOne x) (List.mem_map_of_mem (List.mem_of_getElem? hx))
  rw [h1] at h
  have : fewOne x ≤ 9000 := by omega
  unfold fewOne at this
  omega
theorem fewS_len {l : List Sld} (h : fewS l = true) : l.length ≤ 60 := by
  simp only [fewS, Bool.and_eq_true, decide_eq_true_eq] at h
  exact h.1

set_option maxRecDepth 100000 in
set_option maxHeartbeats 2000000 in
theorem few20_walk (v : Value) (l : List Sld) (w : World) (h : SldRow w v l) :
    Calls Tryz.prog 23 #[v] w fun e w' => e = .returned (.bool (fewS l)) ∧ Below w.heap.size w w' := by
  rcases h with ⟨rfl, p, c, rfl⟩ | ⟨g, o, c, rfl, _, hg, hc⟩
  · go_enter Tryz.func23, Tryz.ntmps23
    go_wp2_with fail
    go_loop [3, 4] (fun n i => n = .int .i64 0 ∧ i = .int .i64 0) (fun _ _ => 0)
    case atStart => exact ⟨rfl, rfl⟩
    case round =>
      obtain ⟨rfl, rfl⟩ := hrel
      go_wp2_with fail
      go_ret
      exact ⟨rfl, Below.refl _ _⟩
  have HC := Lib.hid hc; clear hc
  obtain ⟨n, Hn⟩ : ∃ n, Hid (n = l.length) := ⟨_, rfl⟩
  obtain ⟨N, HN⟩ : ∃ N, Hid (N = min n 100) := ⟨_, rfl⟩
  have hN1 : N ≤ 100 := by rw [HN.out]; omega
  have hN2 : N ≤ n := by rw [HN.out]; omega
  rw [← Hn.out]
  go_enter Tryz.func23, Tryz.ntmps23
  go_wp2_with fail
  go_loopw [3, 4] (fun vn vi wr => ∃ k m : Nat, k ≤ N ∧ vi = .int .i64 k ∧ vn = .int .i64 m ∧ m = ((l.take k).map fewOne).sum ∧ m ≤ 30000 * k ∧ Below w.heap.size w wr) (fun _ vi _ => N - (intOf vi).toNat)
  case atStart => exact ⟨0, 0, by omega, rfl, rfl, rfl, by omega, Below.refl _ _⟩
  case round =>
    obtain ⟨k, m, hk, rfl, rfl, hm, hm2, hbel⟩ := hrel
    have HM := Lib.hid hm; clear hm
    by_cases hlt : k < N
    · have hlt' : (k : Int) < n := by omega
      have hk100 : (k : Int) < 100 := by omega
      have h0 : (0 : Int) ≤ (k : Int) := by omega
      obtain ⟨x, hxk⟩ : ∃ r, l[k]? = some r := ⟨_, List.getElem?_eq_getElem (by rw [← Hn.out]; omega)⟩
      have hrange : wr.rangeAt g (o + k * 9) x.cells := fun j u hu => by rw [hbel.cell (by show g < w.heap.size; exact hg)]; exact HC.out k x hxk j u hu
      have hs := fewN_snoc l k x hxk
      obtain ⟨⟨kind, epoch, time, count, target, till, root, name⟩, tag⟩ := x
      obtain ⟨a, ha⟩ : ∃ a : Nat, min (tag.size : Int) 10000 = (a : Int) := ⟨min tag.size 10000, by omega⟩
      obtain ⟨b, hb⟩ : ∃ a : Nat, min (root.size : Int) 10000 = (a : Int) := ⟨min root.size 10000, by omega⟩
      obtain ⟨d, hd⟩ : ∃ a : Nat, min (name.size : Int) 10000 = (a : Int) := ⟨min name.size 10000, by omega⟩
      have ha1 : a ≤ 10000 := by omega
      have hb1 : b ≤ 10000 := by omega
      have hd1 : d ≤ 10000 := by omega
      have hone : fewOne ⟨⟨kind, epoch, time, count, target, till, root, name⟩, tag⟩ = a + b + d := by unfold fewOne; simp only; omega
      rw [hone, ← HM.out] at hs
      have HS := Lib.hid hs; clear hs hone
      obtain ⟨_, _, _, _, _, _, c6, c7, c8⟩ := sld_cells hrange
      clear hrange hxk
      have e1 : IntKind.i64.wrap ((m : Int) + (a : Int)) = ((m + a : Nat) : Int) := by rw [IntWalk.i64_in _ (by omega)]; omega
      have e2 : IntKind.i64.wrap (((m + a : Nat) : Int) + (b : Int)) = ((m + a + b : Nat) : Int) := by rw [IntWalk.i64_in _ (by omega)]; omega
      have e3 : IntKind.i64.wrap (((m + a + b : Nat) : Int) + (d : Int)) = ((m + a + b + d : Nat) : Int) := by rw [IntWalk.i64_in _ (by omega)]; omega
      go_wp2_with fail
      go_quiet (fail)
      go_wp2_with fail
      clear e1 e2 e3 ha hb hd
      go_roundw
      case rel => exact ⟨k + 1, m + a + b + d, by omega, by go_num, rfl, by rw [HS.out]; omega, by omega, Below.drewN hbel _⟩
      case measure => simp [intOf]; omega
    · obtain rfl : k = N := by omega
      have hfN : m = fewN l := by
        rw [HM.out]; unfold fewN
        have h1 := Hn.out
        have h2 := HN.out
        by_cases h : n ≤ 100
        · rw [List.take_of_length_le (by omega), List.take_of_length_le (by omega)]
        · rw [show k = 100 by omega]
      have HFN := Lib.hid hfN; clear hfN
      have hres : fewS l = (decide (n ≤ 60) && decide (m ≤ 9000)) := by unfold fewS; rw [← HFN.out, ← Hn.out]
      have HRES := Lib.hid hres; clear hres
      by_cases h : n ≤ 100
      · have h1 : (n : Int) ≤ k := by have := HN.out; omega
        have h2 : ¬ (k : Int) < n := by omega
        go_wp2_with fail
        all_goals go_ret
        all_goals refine ⟨ret_b ?_, hbel⟩
        all_goals rw [HRES.out, Bool.eq_iff_iff]
        all_goals simp
        all_goals omega
      · have h1 : (k : Int) < n := by have := HN.out; omega
        have h2 : (100 : Int) ≤ k := by have := HN.out; omega
        go_wp2_with fail
        all_goals go_ret
        all_goals refine ⟨ret_b ?_, hbel⟩
        all_goals rw [HRES.out, Bool.eq_iff_iff]
        all_goals simp
        all_goals omega
end Go.Proofs.YtidekfbgjghcjaaGreat

