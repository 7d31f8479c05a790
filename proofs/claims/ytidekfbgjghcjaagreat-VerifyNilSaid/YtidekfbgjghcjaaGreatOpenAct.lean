/- What a statement's parameters hand to its walk: an act of chapter 28 by value. -/
import Derived.Test.YtidekfbgjghcjaaGreatG15
namespace Go.Proofs.YtidekfbgjghcjaaGreat
set_option linter.unusedSimpArgs false
set_option linter.unusedVariables false
open Go Go.RowKit Go.ChangeShapes Go.WideShapes Go.Deep
set_option linter.unusedVariables false

/-- A call of a volume. -/
structure CallD where
  kind : Int
  lba : Int
  epoch : Int
  time : Int
  data : ByteArray
  name : ByteArray
  kp : Option Addr
  kn : Nat
  kc : Nat
def CallD.cells (c : CallD) : List Value := [.int .i64 c.kind, .int .i64 c.lba, .int .i64 c.epoch, .int .i64 c.time, .string c.data, .string c.name, .slice c.kp c.kn c.kc]
/-- An act. -/
structure ActD where
  kind : Int
  n : Int
  spoil : Int
  name : ByteArray
  pa : Option Addr
  na : Nat
  ca : Nat
  m : MsgD
  u : Value
  l : Value
  call : CallD
def ActD.cells (a : ActD) : List Value := [.int .i64 a.kind] ++ ([.int .i64 a.n] ++ ([.int .i64 a.spoil] ++ ([.string a.name] ++ ([.slice a.pa a.na a.ca] ++ (a.m.cells a.u a.l ++ a.call.cells)))))
def ActD.v (a : ActD) : Value := .agg a.cells.toArray
/-- An act that came in. -/
structure ActFits (w : World) (a : ActD) : Prop where
  msg : MsgFits w a.m a.u a.l
  asks : a.na ≤ 9223372036854775807
  keep : a.call.kn ≤ 9223372036854775807
section
variable {H : Type} {enc : TypeId × Value → H} {w : World} {base : Nat} {spare : Nat → Bool} {held : Bool}
theorem slc_trod {t e : TypeId} {fuel : Nat} {cs : List Value} {x : DataW H × List MemPlace} (ht : Tryz.prog.underlying t = some (.slice e)) (h : DataW.trod enc Tryz.prog w base spare held fuel t cs = some x) : ∃ p n c, cs = [.slice p n c] ∧ n ≤ 9223372036854775807 := by
  rcases DataW.trod_slice ht h with h0 | ⟨a, len, cap, elems, rest, n, _, rfl, rfl, hb, hl, hm, _⟩
  · exact ⟨none, 0, 0, by first | exact h0.1 | exact h0, by omega⟩
  · exact ⟨some a, len, cap, rfl, by have : maxLen = 9223372036854775807 := rfl; omega⟩
set_option maxRecDepth 100000 in
theorem call_trod {fuel : Nat} {cs : List Value} {x : DataW H × List MemPlace} (h : DataW.trod enc Tryz.prog w base spare held fuel 80 cs = some x) : ∃ c : CallD, cs = c.cells ∧ c.kn ≤ 9223372036854775807 := by
  obtain ⟨xs, n, _, _, hl, hlen, hf⟩ := DataW.trod_struct Tryz.underlying80 h
  have hc : Tryz.prog.cellsOf 80 = 7 := by kernel_rfl
  have kk0 : Tryz.prog.cellsOf 78 = 1 := by kernel_rfl
  have kk1 : Tryz.prog.cellsOf 3 = 1 := by kernel_rfl
  have kk2 : Tryz.prog.cellsOf 9 = 1 := by kernel_rfl
  rw [hc] at hl
  match xs, hlen with
  | [y0, y1, y2, y3, y4, y5, y6], _ =>
    have g0 : DataW.trod enc Tryz.prog w base spare held n 3 (List.take (Tryz.prog.cellsOf 3) (List.drop 0 cs)) = some y0 := hf 0 _ rfl
    rw [kk1] at g0
    have g1 : DataW.trod enc Tryz.prog w base spare held n 3 (List.take (Tryz.prog.cellsOf 3) (List.drop 1 cs)) = some y1 := hf 1 _ rfl
    rw [kk1] at g1
    have g2 : DataW.trod enc Tryz.prog w base spare held n 3 (List.take (Tryz.prog.cellsOf 3) (List.drop 2 cs)) = some y2 := hf 2 _ rfl
    rw [kk1] at g2
    have g3 : DataW.trod enc Tryz.prog w base spare held n 3 (List.take (Tryz.prog.cellsOf 3) (List.drop 3 cs)) = some y3 := hf 3 _ rfl
    rw [kk1] at g3
    have g4 : DataW.trod enc Tryz.prog w base spare held n 9 (List.take (Tryz.prog.cellsOf 9) (List.drop 4 cs)) = some y4 := hf 4 _ rfl
    rw [kk2] at g4
    have g5 : DataW.trod enc Tryz.prog w base spare held n 9 (List.take (Tryz.prog.cellsOf 9) (List.drop 5 cs)) = some y5 := hf 5 _ rfl
    rw [kk2] at g5
    have g6 : DataW.trod enc Tryz.prog w base spare held n 78 (List.take (Tryz.prog.cellsOf 78) (List.drop 6 cs)) = some y6 := hf 6 _ rfl
    rw [kk0] at g6
    obtain ⟨n0, e0, _, f0⟩ := DataW.trod_int Tryz.underlying3 g0
    obtain ⟨n1, e1, _, f1⟩ := DataW.trod_int Tryz.underlying3 g1
    obtain ⟨n2, e2, _, f2⟩ := DataW.trod_int Tryz.underlying3 g2
    obtain ⟨n3, e3, _, f3⟩ := DataW.trod_int Tryz.underlying3 g3
    obtain ⟨n4, e4, _, f4⟩ := DataW.trod_string Tryz.underlying9 g4
    obtain ⟨n5, e5, _, f5⟩ := DataW.trod_string Tryz.underlying9 g5
    obtain ⟨p6, n6, c6, e6, f6⟩ := slc_trod Tryz.underlying78 g6
    have ee : cs = (cs.drop 0).take 1 ++ ((cs.drop 1).take 1 ++ ((cs.drop 2).take 1 ++ ((cs.drop 3).take 1 ++ ((cs.drop 4).take 1 ++ ((cs.drop 5).take 1 ++ ((cs.drop 6).take 1)))))) := by
      match cs, hl with
      | [_, _, _, _, _, _, _], _ => rfl
    rw [ee, e0, e1, e2, e3, e4, e5, e6]
    exact ⟨⟨n0, n1, n2, n3, n4, n5, p6, n6, c6⟩, rfl, f6⟩
set_option maxRecDepth 100000 in
theorem act_trod {fuel : Nat} {cs : List Value} {x : DataW H × List MemPlace} (h : DataW.trod enc Tryz.prog w base spare held fuel 82 cs = some x) : ∃ a : ActD, cs = a.cells ∧ ActFits w a := by
  obtain ⟨xs, n, _, _, hl, hlen, hf⟩ := DataW.trod_struct Tryz.underlying82 h
  have hc : Tryz.prog.cellsOf 82 = 53 := by kernel_rfl
  have kk0 : Tryz.prog.cellsOf 77 = 1 := by kernel_rfl
  have kk1 : Tryz.prog.cellsOf 80 = 7 := by kernel_rfl
  have kk2 : Tryz.prog.cellsOf 39 = 41 := by kernel_rfl
  have kk3 : Tryz.prog.cellsOf 3 = 1 := by kernel_rfl
  have kk4 : Tryz.prog.cellsOf 9 = 1 := by kernel_rfl
  rw [hc] at hl
  match xs, hlen with
  | [y0, y1, y2, y3, y4, y5, y6], _ =>
    have g0 : DataW.trod enc Tryz.prog w base spare held n 3 (List.take (Tryz.prog.cellsOf 3) (List.drop 0 cs)) = some y0 := hf 0 _ rfl
    rw [kk3] at g0
    have g1 : DataW.trod enc Tryz.prog w base spare held n 3 (List.take (Tryz.prog.cellsOf 3) (List.drop 1 cs)) = some y1 := hf 1 _ rfl
    rw [kk3] at g1
    have g2 : DataW.trod enc Tryz.prog w base spare held n 3 (List.take (Tryz.prog.cellsOf 3) (List.drop 2 cs)) = some y2 := hf 2 _ rfl
    rw [kk3] at g2
    have g3 : DataW.trod enc Tryz.prog w base spare held n 9 (List.take (Tryz.prog.cellsOf 9) (List.drop 3 cs)) = some y3 := hf 3 _ rfl
    rw [kk4] at g3
    have g4 : DataW.trod enc Tryz.prog w base spare held n 77 (List.take (Tryz.prog.cellsOf 77) (List.drop 4 cs)) = some y4 := hf 4 _ rfl
    rw [kk0] at g4
    have g5 : DataW.trod enc Tryz.prog w base spare held n 39 (List.take (Tryz.prog.cellsOf 39) (List.drop 5 cs)) = some y5 := hf 5 _ rfl
    rw [kk2] at g5
    have g6 : DataW.trod enc Tryz.prog w base spare held n 80 (List.take (Tryz.prog.cellsOf 80) (List.drop 46 cs)) = some y6 := hf 6 _ rfl
    rw [kk1] at g6
    obtain ⟨n0, e0, _, f0⟩ := DataW.trod_int Tryz.underlying3 g0
    obtain ⟨n1, e1, _, f1⟩ := DataW.trod_int Tryz.underlying3 g1
    obtain ⟨n2, e2, _, f2⟩ := DataW.trod_int Tryz.underlying3 g2
    obtain ⟨n3, e3, _, f3⟩ := DataW.trod_string Tryz.underlying9 g3
    obtain ⟨p4, n4, c4, e4, f4⟩ := slc_trod Tryz.underlying77 g4
    obtain ⟨n5, u5, l5, e5, f5⟩ := msg_trod g5
    obtain ⟨n6, e6, f6⟩ := call_trod g6
    have ee : cs = (cs.drop 0).take 1 ++ ((cs.drop 1).take 1 ++ ((cs.drop 2).take 1 ++ ((cs.drop 3).take 1 ++ ((cs.drop 4).take 1 ++ ((cs.drop 5).take 41 ++ ((cs.drop 46).take 7)))))) := by
      have d0 : cs.drop 0 = (cs.drop 0).take 1 ++ cs.drop 1 := by rw [show cs.drop 1 = (cs.drop 0).drop 1 by rw [List.drop_drop], List.take_append_drop]
      have d1 : cs.drop 1 = (cs.drop 1).take 1 ++ cs.drop 2 := by rw [show cs.drop 2 = (cs.drop 1).drop 1 by rw [List.drop_drop], List.take_append_drop]
      have d2 : cs.drop 2 = (cs.drop 2).take 1 ++ cs.drop 3 := by rw [show cs.drop 3 = (cs.drop 2).drop 1 by rw [List.drop_drop], List.take_append_drop]
      have d3 : cs.drop 3 = (cs.drop 3).take 1 ++ cs.drop 4 := by rw [show cs.drop 4 = (cs.drop 3).drop 1 by rw [List.drop_drop], List.take_append_drop]
      have d4 : cs.drop 4 = (cs.drop 4).take 1 ++ cs.drop 5 := by rw [show cs.drop 5 = (cs.drop 4).drop 1 by rw [List.drop_drop], List.take_append_drop]
      have d5 : cs.drop 5 = (cs.drop 5).take 41 ++ cs.drop 46 := by rw [show cs.drop 46 = (cs.drop 5).drop 41 by rw [List.drop_drop], List.take_append_drop]
      have dl : (cs.drop 46).take 7 = cs.drop 46 := List.take_of_length_le (by rw [List.length_drop, hl]; omega)
      rw [dl, ← d5, ← d4, ← d3, ← d2, ← d1, ← d0]
      rfl
    rw [ee, e0, e1, e2, e3, e4, e5, e6]
    exact ⟨⟨n0, n1, n2, n3, p4, n4, c4, n5, u5, l5, n6⟩, rfl, ⟨f5, f4, f6⟩⟩
theorem act_in {v : Value} {d : DataW H} {ps : List MemPlace} (hv : ∃ cs, v = .agg cs ∧ cs.size = Tryz.prog.cellsOf 82) (h : DataW.Trod enc Tryz.prog w base spare held 82 v d ps) : ∃ a : ActD, v = a.v ∧ ActFits w a := by
  obtain ⟨cs, rfl, _⟩ := hv
  obtain ⟨fuel, hf⟩ := h
  obtain ⟨a, hx, hfit⟩ := act_trod hf
  refine ⟨a, ?_, hfit⟩
  have : cs.toList = a.cells := by simpa [Value.cells] using hx
  show Value.agg cs = Value.agg a.cells.toArray
  rw [← this]
end
end Go.Proofs.YtidekfbgjghcjaaGreat
