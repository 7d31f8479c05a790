/- What a statement's parameters hand to its walk: a message by value. -/
import Derived.Test.YtkdplgcffdaoaaaWireD
import Derived.Test.YtkdplgcffdaoaaaWireS1
import Derived.Test.YtkdplgcffdaoaaaG9
namespace Go.Proofs.Ytkdplgcffdaoaaa
set_option linter.unusedSimpArgs false
set_option linter.unusedVariables false
open Go Go.RowKit Go.ChangeShapes Go.WideShapes Go.Deep
set_option linter.unusedVariables false

/-- A message that came in. -/
structure MsgFits (w : World) (m : MsgD) (u l : Value) : Prop where
  kind : Fits m.kind
  epoch : Fits m.epoch
  seq : Fits m.seq
  nonce : Long m.nonce.size
  tag : Long m.tag.size
  last : Long m.last.size
  sld : RecFits m.sld.r
  rcp : RcpFits m.rcp
  at_ : Fits m.told.at_
  slot : Fits m.told.slot
  up : PRow w u m.told.up
  left : PRow w l m.told.left
  upl : Long m.told.up.length
  leftl : Long m.told.left.length
theorem PRow.of_strs {w : World} {v : Value} {xs : List ByteArray} (h : StrsIn w v xs) : PRow w v xs := by
  rcases h.row with h1 | ⟨g, o, c, h1, hc, h2, h3⟩
  · exact .inl h1
  · exact .inr ⟨g, o, c, h1, h2, fun hm => (List.not_mem_nil hm).elim, h3⟩

section
variable {H : Type} {enc : TypeId × Value → H} {w : World} {base : Nat} {spare : Nat → Bool} {held : Bool}
set_option maxRecDepth 100000 in
theorem path_trod {fuel : Nat} {cs : List Value} {x : DataW H × List MemPlace} (h : DataW.trod enc Try.prog w base spare held fuel 31 cs = some x) : ∃ v xs, cs = [v] ∧ PRow w v xs ∧ Long xs.length := by
  have hh := h
  rcases open_strings Try.underlying31 Try.underlying9 (by kernel_rfl) h with ⟨hcs, _⟩ | ⟨a, len, cap, zs, hcs, _, hl, hm, hz, _, hcell, hwf⟩
  · exact ⟨_, [], hcs, PathIn.nil _ _, ⟨by simp⟩⟩
  · obtain ⟨xs, hx⟩ := strs_in (v := .slice (some a) len cap) Try.underlying31 Try.underlying9 (by kernel_rfl) ⟨_, _, _, rfl⟩ (⟨fuel, by rw [hcs] at hh; simpa [Value.cells] using hh⟩ : DataW.Trod enc Try.prog w base spare held 31 (.slice (some a) len cap) x.1 x.2)
    refine ⟨_, xs, hcs, PRow.of_strs hx, ⟨?_⟩⟩
    have hl2 : xs.length = len := by
      obtain ⟨p, c, hp⟩ := (PRow.of_strs hx).shape
      injection hp with _ hp _
      exact hp.symm
    have : maxLen = 9223372036854775807 := rfl
    omega
set_option maxRecDepth 100000 in
theorem ask_trod {fuel : Nat} {cs : List Value} {x : DataW H × List MemPlace} (h : DataW.trod enc Try.prog w base spare held fuel 23 cs = some x) : ∃ p : Int × Int, cs = [.int .i64 p.1, .int .i64 p.2] ∧ Fits p.1 ∧ Fits p.2 := by
  obtain ⟨xs, n, _, _, hl, hlen, hf⟩ := DataW.trod_struct Try.underlying23 h
  have hc : Try.prog.cellsOf 23 = 2 := by kernel_rfl
  have kk0 : Try.prog.cellsOf 3 = 1 := by kernel_rfl
  rw [hc] at hl
  match xs, hlen with
  | [y0, y1], _ =>
    have g0 : DataW.trod enc Try.prog w base spare held n 3 (List.take (Try.prog.cellsOf 3) (List.drop 0 cs)) = some y0 := hf 0 _ rfl
    rw [kk0] at g0
    have g1 : DataW.trod enc Try.prog w base spare held n 3 (List.take (Try.prog.cellsOf 3) (List.drop 1 cs)) = some y1 := hf 1 _ rfl
    rw [kk0] at g1
    obtain ⟨n0, e0, _, f0⟩ := DataW.trod_int Try.underlying3 g0
    obtain ⟨n1, e1, _, f1⟩ := DataW.trod_int Try.underlying3 g1
    have ee : cs = (cs.drop 0).take 1 ++ ((cs.drop 1).take 1) := by
      match cs, hl with
      | [_, _], _ => rfl
    rw [ee, e0, e1]
    exact ⟨(n0, n1), rfl, fits_of_wf f0, fits_of_wf f1⟩
set_option maxRecDepth 100000 in
theorem leaf_trod {fuel : Nat} {cs : List Value} {x : DataW H × List MemPlace} (h : DataW.trod enc Try.prog w base spare held fuel 29 cs = some x) : ∃ y : LeafD, cs = y.cells ∧ Fits y.lba := by
  obtain ⟨xs, n, _, _, hl, hlen, hf⟩ := DataW.trod_struct Try.underlying29 h
  have hc : Try.prog.cellsOf 29 = 2 := by kernel_rfl
  have kk0 : Try.prog.cellsOf 3 = 1 := by kernel_rfl
  have kk1 : Try.prog.cellsOf 9 = 1 := by kernel_rfl
  rw [hc] at hl
  match xs, hlen with
  | [y0, y1], _ =>
    have g0 : DataW.trod enc Try.prog w base spare held n 3 (List.take (Try.prog.cellsOf 3) (List.drop 0 cs)) = some y0 := hf 0 _ rfl
    rw [kk0] at g0
    have g1 : DataW.trod enc Try.prog w base spare held n 9 (List.take (Try.prog.cellsOf 9) (List.drop 1 cs)) = some y1 := hf 1 _ rfl
    rw [kk1] at g1
    obtain ⟨n0, e0, _, f0⟩ := DataW.trod_int Try.underlying3 g0
    obtain ⟨n1, e1, _, f1⟩ := DataW.trod_string Try.underlying9 g1
    have ee : cs = (cs.drop 0).take 1 ++ ((cs.drop 1).take 1) := by
      match cs, hl with
      | [_, _], _ => rfl
    rw [ee, e0, e1]
    exact ⟨⟨n0, n1⟩, rfl, fits_of_wf f0⟩
/-- What a place has, that came in. -/
structure ToldFits (w : World) (t : ToldD) (u l : Value) : Prop where
  at_ : Fits t.at_
  up : PRow w u t.up
  left : PRow w l t.left
  upl : Long t.up.length
  leftl : Long t.left.length
set_option maxRecDepth 100000 in
theorem proof_trod {fuel : Nat} {cs : List Value} {x : DataW H × List MemPlace} (h : DataW.trod enc Try.prog w base spare held fuel 33 cs = some x) : ∃ (t : ToldD) (u l : Value), cs = t.pcells u l ∧ ToldFits w t u l := by
  obtain ⟨xs, n, _, _, hl, hlen, hf⟩ := DataW.trod_struct Try.underlying33 h
  have hc : Try.prog.cellsOf 33 = 8 := by kernel_rfl
  have kk0 : Try.prog.cellsOf 29 = 2 := by kernel_rfl
  have kk1 : Try.prog.cellsOf 31 = 1 := by kernel_rfl
  have kk2 : Try.prog.cellsOf 4 = 1 := by kernel_rfl
  have kk3 : Try.prog.cellsOf 3 = 1 := by kernel_rfl
  rw [hc] at hl
  match xs, hlen with
  | [y0, y1, y2, y3, y4, y5], _ =>
    have g0 : DataW.trod enc Try.prog w base spare held n 4 (List.take (Try.prog.cellsOf 4) (List.drop 0 cs)) = some y0 := hf 0 _ rfl
    rw [kk2] at g0
    have g1 : DataW.trod enc Try.prog w base spare held n 3 (List.take (Try.prog.cellsOf 3) (List.drop 1 cs)) = some y1 := hf 1 _ rfl
    rw [kk3] at g1
    have g2 : DataW.trod enc Try.prog w base spare held n 29 (List.take (Try.prog.cellsOf 29) (List.drop 2 cs)) = some y2 := hf 2 _ rfl
    rw [kk0] at g2
    have g3 : DataW.trod enc Try.prog w base spare held n 29 (List.take (Try.prog.cellsOf 29) (List.drop 4 cs)) = some y3 := hf 3 _ rfl
    rw [kk0] at g3
    have g4 : DataW.trod enc Try.prog w base spare held n 31 (List.take (Try.prog.cellsOf 31) (List.drop 6 cs)) = some y4 := hf 4 _ rfl
    rw [kk1] at g4
    have g5 : DataW.trod enc Try.prog w base spare held n 31 (List.take (Try.prog.cellsOf 31) (List.drop 7 cs)) = some y5 := hf 5 _ rfl
    rw [kk1] at g5
    obtain ⟨n0, e0, _⟩ := DataW.trod_bool Try.underlying4 g0
    obtain ⟨n1, e1, _, f1⟩ := DataW.trod_int Try.underlying3 g1
    obtain ⟨n2, e2, f2⟩ := leaf_trod g2
    obtain ⟨n3, e3, f3⟩ := leaf_trod g3
    obtain ⟨v4, n4, e4, r4, f4⟩ := path_trod g4
    obtain ⟨v5, n5, e5, r5, f5⟩ := path_trod g5
    have ee : cs = (cs.drop 0).take 1 ++ ((cs.drop 1).take 1 ++ ((cs.drop 2).take 2 ++ ((cs.drop 4).take 2 ++ ((cs.drop 6).take 1 ++ ((cs.drop 7).take 1))))) := by
      match cs, hl with
      | [_, _, _, _, _, _, _, _], _ => rfl
    rw [ee, e0, e1, e2, e3, e4, e5]
    exact ⟨⟨0, 0, false, n0, n1, n2, n3, n4, n5, 0, ⟨#[]⟩⟩, v4, v5, rfl, fits_of_wf f1, r4, r5, f4, f5⟩
set_option maxRecDepth 100000 in
theorem told_trod {fuel : Nat} {cs : List Value} {x : DataW H × List MemPlace} (h : DataW.trod enc Try.prog w base spare held fuel 35 cs = some x) : ∃ (t : ToldD) (u l : Value), cs = t.cells u l ∧ ToldFits w t u l ∧ Fits t.slot := by
  obtain ⟨xs, n, _, _, hl, hlen, hf⟩ := DataW.trod_struct Try.underlying35 h
  have hc : Try.prog.cellsOf 35 = 13 := by kernel_rfl
  have kk0 : Try.prog.cellsOf 23 = 2 := by kernel_rfl
  have kk1 : Try.prog.cellsOf 33 = 8 := by kernel_rfl
  have kk2 : Try.prog.cellsOf 4 = 1 := by kernel_rfl
  have kk3 : Try.prog.cellsOf 3 = 1 := by kernel_rfl
  have kk4 : Try.prog.cellsOf 9 = 1 := by kernel_rfl
  rw [hc] at hl
  match xs, hlen with
  | [y0, y1, y2, y3, y4], _ =>
    have g0 : DataW.trod enc Try.prog w base spare held n 23 (List.take (Try.prog.cellsOf 23) (List.drop 0 cs)) = some y0 := hf 0 _ rfl
    rw [kk0] at g0
    have g1 : DataW.trod enc Try.prog w base spare held n 4 (List.take (Try.prog.cellsOf 4) (List.drop 2 cs)) = some y1 := hf 1 _ rfl
    rw [kk2] at g1
    have g2 : DataW.trod enc Try.prog w base spare held n 33 (List.take (Try.prog.cellsOf 33) (List.drop 3 cs)) = some y2 := hf 2 _ rfl
    rw [kk1] at g2
    have g3 : DataW.trod enc Try.prog w base spare held n 3 (List.take (Try.prog.cellsOf 3) (List.drop 11 cs)) = some y3 := hf 3 _ rfl
    rw [kk3] at g3
    have g4 : DataW.trod enc Try.prog w base spare held n 9 (List.take (Try.prog.cellsOf 9) (List.drop 12 cs)) = some y4 := hf 4 _ rfl
    rw [kk4] at g4
    obtain ⟨n0, e0, f0⟩ := ask_trod g0
    obtain ⟨n1, e1, _⟩ := DataW.trod_bool Try.underlying4 g1
    obtain ⟨n2, u2, l2, e2, f2⟩ := proof_trod g2
    obtain ⟨n3, e3, _, f3⟩ := DataW.trod_int Try.underlying3 g3
    obtain ⟨n4, e4, _, f4⟩ := DataW.trod_string Try.underlying9 g4
    have ee : cs = (cs.drop 0).take 2 ++ ((cs.drop 2).take 1 ++ ((cs.drop 3).take 8 ++ ((cs.drop 11).take 1 ++ ((cs.drop 12).take 1)))) := by
      match cs, hl with
      | [_, _, _, _, _, _, _, _, _, _, _, _, _], _ => rfl
    rw [ee, e0, e1, e2, e3, e4]
    exact ⟨{ n2 with askE := n0.1, askL := n0.2, gone := n1, slot := n3, cipher := n4 }, u2, l2, rfl, ⟨f2.at_, f2.up, f2.left, f2.upl, f2.leftl⟩, fits_of_wf f3⟩
set_option maxRecDepth 100000 in
theorem msg_trod {fuel : Nat} {cs : List Value} {x : DataW H × List MemPlace} (h : DataW.trod enc Try.prog w base spare held fuel 39 cs = some x) : ∃ (m : MsgD) (u l : Value), cs = m.cells u l ∧ MsgFits w m u l := by
  obtain ⟨xs, n, _, _, hl, hlen, hf⟩ := DataW.trod_struct Try.underlying39 h
  have hc : Try.prog.cellsOf 39 = 41 := by kernel_rfl
  have kk0 : Try.prog.cellsOf 23 = 2 := by kernel_rfl
  have kk1 : Try.prog.cellsOf 37 = 11 := by kernel_rfl
  have kk2 : Try.prog.cellsOf 27 = 9 := by kernel_rfl
  have kk3 : Try.prog.cellsOf 35 = 13 := by kernel_rfl
  have kk4 : Try.prog.cellsOf 3 = 1 := by kernel_rfl
  have kk5 : Try.prog.cellsOf 9 = 1 := by kernel_rfl
  rw [hc] at hl
  match xs, hlen with
  | [y0, y1, y2, y3, y4, y5, y6, y7, y8, y9], _ =>
    have g0 : DataW.trod enc Try.prog w base spare held n 3 (List.take (Try.prog.cellsOf 3) (List.drop 0 cs)) = some y0 := hf 0 _ rfl
    rw [kk4] at g0
    have g1 : DataW.trod enc Try.prog w base spare held n 3 (List.take (Try.prog.cellsOf 3) (List.drop 1 cs)) = some y1 := hf 1 _ rfl
    rw [kk4] at g1
    have g2 : DataW.trod enc Try.prog w base spare held n 3 (List.take (Try.prog.cellsOf 3) (List.drop 2 cs)) = some y2 := hf 2 _ rfl
    rw [kk4] at g2
    have g3 : DataW.trod enc Try.prog w base spare held n 9 (List.take (Try.prog.cellsOf 9) (List.drop 3 cs)) = some y3 := hf 3 _ rfl
    rw [kk5] at g3
    have g4 : DataW.trod enc Try.prog w base spare held n 9 (List.take (Try.prog.cellsOf 9) (List.drop 4 cs)) = some y4 := hf 4 _ rfl
    rw [kk5] at g4
    have g5 : DataW.trod enc Try.prog w base spare held n 9 (List.take (Try.prog.cellsOf 9) (List.drop 5 cs)) = some y5 := hf 5 _ rfl
    rw [kk5] at g5
    have g6 : DataW.trod enc Try.prog w base spare held n 23 (List.take (Try.prog.cellsOf 23) (List.drop 6 cs)) = some y6 := hf 6 _ rfl
    rw [kk0] at g6
    have g7 : DataW.trod enc Try.prog w base spare held n 27 (List.take (Try.prog.cellsOf 27) (List.drop 8 cs)) = some y7 := hf 7 _ rfl
    rw [kk2] at g7
    have g8 : DataW.trod enc Try.prog w base spare held n 35 (List.take (Try.prog.cellsOf 35) (List.drop 17 cs)) = some y8 := hf 8 _ rfl
    rw [kk3] at g8
    have g9 : DataW.trod enc Try.prog w base spare held n 37 (List.take (Try.prog.cellsOf 37) (List.drop 30 cs)) = some y9 := hf 9 _ rfl
    rw [kk1] at g9
    obtain ⟨n0, e0, _, f0⟩ := DataW.trod_int Try.underlying3 g0
    obtain ⟨n1, e1, _, f1⟩ := DataW.trod_int Try.underlying3 g1
    obtain ⟨n2, e2, _, f2⟩ := DataW.trod_int Try.underlying3 g2
    obtain ⟨n3, e3, _, f3⟩ := DataW.trod_string Try.underlying9 g3
    obtain ⟨n4, e4, _, f4⟩ := DataW.trod_string Try.underlying9 g4
    obtain ⟨n5, e5, _, f5⟩ := DataW.trod_string Try.underlying9 g5
    obtain ⟨n6, e6, f6⟩ := ask_trod g6
    obtain ⟨n7, e7, f7⟩ := sld_trod g7
    obtain ⟨n8, u8, l8, e8, f8⟩ := told_trod g8
    obtain ⟨n9, e9, f9⟩ := rcp_trod g9
    have ee : cs = (cs.drop 0).take 1 ++ ((cs.drop 1).take 1 ++ ((cs.drop 2).take 1 ++ ((cs.drop 3).take 1 ++ ((cs.drop 4).take 1 ++ ((cs.drop 5).take 1 ++ ((cs.drop 6).take 2 ++ ((cs.drop 8).take 9 ++ ((cs.drop 17).take 13 ++ ((cs.drop 30).take 11))))))))) := by
      have d0 : cs.drop 0 = (cs.drop 0).take 1 ++ cs.drop 1 := by rw [show cs.drop 1 = (cs.drop 0).drop 1 by rw [List.drop_drop], List.take_append_drop]
      have d1 : cs.drop 1 = (cs.drop 1).take 1 ++ cs.drop 2 := by rw [show cs.drop 2 = (cs.drop 1).drop 1 by rw [List.drop_drop], List.take_append_drop]
      have d2 : cs.drop 2 = (cs.drop 2).take 1 ++ cs.drop 3 := by rw [show cs.drop 3 = (cs.drop 2).drop 1 by rw [List.drop_drop], List.take_append_drop]
      have d3 : cs.drop 3 = (cs.drop 3).take 1 ++ cs.drop 4 := by rw [show cs.drop 4 = (cs.drop 3).drop 1 by rw [List.drop_drop], List.take_append_drop]
      have d4 : cs.drop 4 = (cs.drop 4).take 1 ++ cs.drop 5 := by rw [show cs.drop 5 = (cs.drop 4).drop 1 by rw [List.drop_drop], List.take_append_drop]
      have d5 : cs.drop 5 = (cs.drop 5).take 1 ++ cs.drop 6 := by rw [show cs.drop 6 = (cs.drop 5).drop 1 by rw [List.drop_drop], List.take_append_drop]
      have d6 : cs.drop 6 = (cs.drop 6).take 2 ++ cs.drop 8 := by rw [show cs.drop 8 = (cs.drop 6).drop 2 by rw [List.drop_drop], List.take_append_drop]
      have d7 : cs.drop 8 = (cs.drop 8).take 9 ++ cs.drop 17 := by rw [show cs.drop 17 = (cs.drop 8).drop 9 by rw [List.drop_drop], List.take_append_drop]
      have d8 : cs.drop 17 = (cs.drop 17).take 13 ++ cs.drop 30 := by rw [show cs.drop 30 = (cs.drop 17).drop 13 by rw [List.drop_drop], List.take_append_drop]
      have dl : (cs.drop 30).take 11 = cs.drop 30 := List.take_of_length_le (by rw [List.length_drop, hl]; omega)
      rw [dl, ← d8, ← d7, ← d6, ← d5, ← d4, ← d3, ← d2, ← d1, ← d0]
      rfl
    rw [ee, e0, e1, e2, e3, e4, e5, e6, e7, e8, e9]
    have l3 : Long n3.size := ⟨by have : maxLen = 9223372036854775807 := rfl; omega⟩
    have l4 : Long n4.size := ⟨by have : maxLen = 9223372036854775807 := rfl; omega⟩
    have l5 : Long n5.size := ⟨by have : maxLen = 9223372036854775807 := rfl; omega⟩
    exact ⟨⟨n0, n1, n2, n3, n4, n5, n6.1, n6.2, n7, n8, n9⟩, u8, l8, rfl, ⟨fits_of_wf f0, fits_of_wf f1, fits_of_wf f2, l3, l4, l5, f7, f9, f8.1.at_, f8.2, f8.1.up, f8.1.left, f8.1.upl, f8.1.leftl⟩⟩
theorem msg_in {v : Value} {d : DataW H} {ps : List MemPlace} (hv : ∃ cs, v = .agg cs ∧ cs.size = Try.prog.cellsOf 39) (h : DataW.Trod enc Try.prog w base spare held 39 v d ps) : ∃ (m : MsgD) (u l : Value), v = m.v u l ∧ MsgFits w m u l := by
  obtain ⟨cs, rfl, _⟩ := hv
  obtain ⟨fuel, hf⟩ := h
  obtain ⟨m, u, l, hx, hfit⟩ := msg_trod hf
  refine ⟨m, u, l, ?_, hfit⟩
  have : cs.toList = m.cells u l := by simpa [Value.cells] using hx
  show Value.agg cs = Value.agg (m.cells u l).toArray
  rw [← this]
end
end Go.Proofs.Ytkdplgcffdaoaaa
