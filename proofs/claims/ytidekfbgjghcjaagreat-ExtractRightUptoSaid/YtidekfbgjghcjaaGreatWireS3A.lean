/- Walk of the documents' Same of two messages (chapter 27). -/
import Derived.Test.YtidekfbgjghcjaaGreatG15
import Derived.Test.YtidekfbgjghcjaaGreatWireS3Q
namespace Go.Proofs.YtidekfbgjghcjaaGreat
set_option linter.unusedSimpArgs false
set_option linter.unusedVariables false
open Go Go.RowKit

set_option maxRecDepth 100000 in
set_option maxHeartbeats 8000000 in
theorem same27_0 (kind kind' : Int) (epoch epoch' : Int) (seq seq' : Int) (nonce nonce' : ByteArray) (tag tag' : ByteArray) (last last' : ByteArray) (askE askE' : Int) (askL askL' : Int) (sld sld' : Sld) (rcp rcp' : Rcp) (tE tE' : Int) (tL tL' : Int) (g g' : Bool) (sl sl' : Int) (ci ci' : ByteArray) (f f' : Bool) (at_ at_' : Int) (here here' : LeafD) (ahead ahead' : LeafD) (up up' : List ByteArray) (left left' : List ByteArray) (u l u' l' : Value) (w : World) (h : ¬ kind = kind') :
    Calls Tryz.prog 38 #[(⟨kind, epoch, seq, nonce, tag, last, askE, askL, sld, (⟨tE, tL, g, f, at_, here, ahead, up, left, sl, ci⟩ : ToldD), rcp⟩ : MsgD).v u l, (⟨kind', epoch', seq', nonce', tag', last', askE', askL', sld', (⟨tE', tL', g', f', at_', here', ahead', up', left', sl', ci'⟩ : ToldD), rcp'⟩ : MsgD).v u' l'] w fun e w' => e = .returned (.bool false) ∧ Below w.heap.size w w' := by
  have p1 : (kind == kind') = false := by rw [Bool.eq_false_iff]; simpa using h
  have p2 : decide (kind = kind') = false := decide_eq_false h
  clear h
  go_enter Tryz.func38, Tryz.ntmps38
  go_wp2_with (first
    | ((with_reducible refine wpList_box_new 39 (.tmp 0) ((⟨kind, epoch, seq, nonce, tag, last, askE, askL, sld, (⟨tE, tL, g, f, at_, here, ahead, up, left, sl, ci⟩ : ToldD), rcp⟩ : MsgD).cells u l) (some 2) ?hgd ?ho ?hd ?hx ?_); (case hgd | ho | hd | hx => rfl); (intro b1 w1 l1 B1 e1 z1))
    | ((with_reducible refine wpList_box_new 39 (.tmp 1) ((⟨kind', epoch', seq', nonce', tag', last', askE', askL', sld', (⟨tE', tL', g', f', at_', here', ahead', up', left', sl', ci'⟩ : ToldD), rcp'⟩ : MsgD).cells u' l') (some 3) ?hgd ?ho ?hd ?hx ?_); (case hgd | ho | hd | hx => rfl); (intro b2 w2 l2 B2 e2 z2); have BB := B1.below e2 (Nat.lt_of_lt_of_le B1.lt l2); have HB2 : Below w.heap.size w w2 := (e1.mono l1).trans (e2.mono (by have := e1.size; omega)); have c0 := BB.cell (i := 0) rfl; have d0 := B2.cell (i := 0) rfl; have c1 := BB.cell (i := 1) rfl; have d1 := B2.cell (i := 1) rfl; have c2 := BB.cell (i := 2) rfl; have d2 := B2.cell (i := 2) rfl; have c3 := BB.cell (i := 3) rfl; have d3 := B2.cell (i := 3) rfl; have c4 := BB.cell (i := 4) rfl; have d4 := B2.cell (i := 4) rfl; have c5 := BB.cell (i := 5) rfl; have d5 := B2.cell (i := 5) rfl; clear B1 B2 BB e1 e2 l1 l2 z1 z2)
    | fail)
  go_ret
  exact ⟨rfl, HB2⟩
set_option maxRecDepth 100000 in
set_option maxHeartbeats 8000000 in
theorem same27_1 (kind : Int) (epoch epoch' : Int) (seq seq' : Int) (nonce nonce' : ByteArray) (tag tag' : ByteArray) (last last' : ByteArray) (askE askE' : Int) (askL askL' : Int) (sld sld' : Sld) (rcp rcp' : Rcp) (tE tE' : Int) (tL tL' : Int) (g g' : Bool) (sl sl' : Int) (ci ci' : ByteArray) (f f' : Bool) (at_ at_' : Int) (here here' : LeafD) (ahead ahead' : LeafD) (up up' : List ByteArray) (left left' : List ByteArray) (u l u' l' : Value) (w : World) (h : ¬ epoch = epoch') :
    Calls Tryz.prog 38 #[(⟨kind, epoch, seq, nonce, tag, last, askE, askL, sld, (⟨tE, tL, g, f, at_, here, ahead, up, left, sl, ci⟩ : ToldD), rcp⟩ : MsgD).v u l, (⟨kind, epoch', seq', nonce', tag', last', askE', askL', sld', (⟨tE', tL', g', f', at_', here', ahead', up', left', sl', ci'⟩ : ToldD), rcp'⟩ : MsgD).v u' l'] w fun e w' => e = .returned (.bool false) ∧ Below w.heap.size w w' := by
  have p1 : (epoch == epoch') = false := by rw [Bool.eq_false_iff]; simpa using h
  have p2 : decide (epoch = epoch') = false := decide_eq_false h
  clear h
  go_enter Tryz.func38, Tryz.ntmps38
  go_wp2_with (first
    | ((with_reducible refine wpList_box_new 39 (.tmp 0) ((⟨kind, epoch, seq, nonce, tag, last, askE, askL, sld, (⟨tE, tL, g, f, at_, here, ahead, up, left, sl, ci⟩ : ToldD), rcp⟩ : MsgD).cells u l) (some 2) ?hgd ?ho ?hd ?hx ?_); (case hgd | ho | hd | hx => rfl); (intro b1 w1 l1 B1 e1 z1))
    | ((with_reducible refine wpList_box_new 39 (.tmp 1) ((⟨kind, epoch', seq', nonce', tag', last', askE', askL', sld', (⟨tE', tL', g', f', at_', here', ahead', up', left', sl', ci'⟩ : ToldD), rcp'⟩ : MsgD).cells u' l') (some 3) ?hgd ?ho ?hd ?hx ?_); (case hgd | ho | hd | hx => rfl); (intro b2 w2 l2 B2 e2 z2); have BB := B1.below e2 (Nat.lt_of_lt_of_le B1.lt l2); have HB2 : Below w.heap.size w w2 := (e1.mono l1).trans (e2.mono (by have := e1.size; omega)); have c0 := BB.cell (i := 0) rfl; have d0 := B2.cell (i := 0) rfl; have c1 := BB.cell (i := 1) rfl; have d1 := B2.cell (i := 1) rfl; have c2 := BB.cell (i := 2) rfl; have d2 := B2.cell (i := 2) rfl; have c3 := BB.cell (i := 3) rfl; have d3 := B2.cell (i := 3) rfl; have c4 := BB.cell (i := 4) rfl; have d4 := B2.cell (i := 4) rfl; have c5 := BB.cell (i := 5) rfl; have d5 := B2.cell (i := 5) rfl; clear B1 B2 BB e1 e2 l1 l2 z1 z2)
    | fail)
  go_ret
  exact ⟨rfl, HB2⟩
set_option maxRecDepth 100000 in
set_option maxHeartbeats 8000000 in
theorem same27_2 (kind : Int) (epoch : Int) (seq seq' : Int) (nonce nonce' : ByteArray) (tag tag' : ByteArray) (last last' : ByteArray) (askE askE' : Int) (askL askL' : Int) (sld sld' : Sld) (rcp rcp' : Rcp) (tE tE' : Int) (tL tL' : Int) (g g' : Bool) (sl sl' : Int) (ci ci' : ByteArray) (f f' : Bool) (at_ at_' : Int) (here here' : LeafD) (ahead ahead' : LeafD) (up up' : List ByteArray) (left left' : List ByteArray) (u l u' l' : Value) (w : World) (h : ¬ seq = seq') :
    Calls Tryz.prog 38 #[(⟨kind, epoch, seq, nonce, tag, last, askE, askL, sld, (⟨tE, tL, g, f, at_, here, ahead, up, left, sl, ci⟩ : ToldD), rcp⟩ : MsgD).v u l, (⟨kind, epoch, seq', nonce', tag', last', askE', askL', sld', (⟨tE', tL', g', f', at_', here', ahead', up', left', sl', ci'⟩ : ToldD), rcp'⟩ : MsgD).v u' l'] w fun e w' => e = .returned (.bool false) ∧ Below w.heap.size w w' := by
  have p1 : (seq == seq') = false := by rw [Bool.eq_false_iff]; simpa using h
  have p2 : decide (seq = seq') = false := decide_eq_false h
  clear h
  go_enter Tryz.func38, Tryz.ntmps38
  go_wp2_with (first
    | ((with_reducible refine wpList_box_new 39 (.tmp 0) ((⟨kind, epoch, seq, nonce, tag, last, askE, askL, sld, (⟨tE, tL, g, f, at_, here, ahead, up, left, sl, ci⟩ : ToldD), rcp⟩ : MsgD).cells u l) (some 2) ?hgd ?ho ?hd ?hx ?_); (case hgd | ho | hd | hx => rfl); (intro b1 w1 l1 B1 e1 z1))
    | ((with_reducible refine wpList_box_new 39 (.tmp 1) ((⟨kind, epoch, seq', nonce', tag', last', askE', askL', sld', (⟨tE', tL', g', f', at_', here', ahead', up', left', sl', ci'⟩ : ToldD), rcp'⟩ : MsgD).cells u' l') (some 3) ?hgd ?ho ?hd ?hx ?_); (case hgd | ho | hd | hx => rfl); (intro b2 w2 l2 B2 e2 z2); have BB := B1.below e2 (Nat.lt_of_lt_of_le B1.lt l2); have HB2 : Below w.heap.size w w2 := (e1.mono l1).trans (e2.mono (by have := e1.size; omega)); have c0 := BB.cell (i := 0) rfl; have d0 := B2.cell (i := 0) rfl; have c1 := BB.cell (i := 1) rfl; have d1 := B2.cell (i := 1) rfl; have c2 := BB.cell (i := 2) rfl; have d2 := B2.cell (i := 2) rfl; have c3 := BB.cell (i := 3) rfl; have d3 := B2.cell (i := 3) rfl; have c4 := BB.cell (i := 4) rfl; have d4 := B2.cell (i := 4) rfl; have c5 := BB.cell (i := 5) rfl; have d5 := B2.cell (i := 5) rfl; clear B1 B2 BB e1 e2 l1 l2 z1 z2)
    | fail)
  go_ret
  exact ⟨rfl, HB2⟩
set_option maxRecDepth 100000 in
set_option maxHeartbeats 8000000 in
theorem same27_3 (kind : Int) (epoch : Int) (seq : Int) (nonce nonce' : ByteArray) (tag tag' : ByteArray) (last last' : ByteArray) (askE askE' : Int) (askL askL' : Int) (sld sld' : Sld) (rcp rcp' : Rcp) (tE tE' : Int) (tL tL' : Int) (g g' : Bool) (sl sl' : Int) (ci ci' : ByteArray) (f f' : Bool) (at_ at_' : Int) (here here' : LeafD) (ahead ahead' : LeafD) (up up' : List ByteArray) (left left' : List ByteArray) (u l u' l' : Value) (w : World) (h : ¬ nonce = nonce') :
    Calls Tryz.prog 38 #[(⟨kind, epoch, seq, nonce, tag, last, askE, askL, sld, (⟨tE, tL, g, f, at_, here, ahead, up, left, sl, ci⟩ : ToldD), rcp⟩ : MsgD).v u l, (⟨kind, epoch, seq, nonce', tag', last', askE', askL', sld', (⟨tE', tL', g', f', at_', here', ahead', up', left', sl', ci'⟩ : ToldD), rcp'⟩ : MsgD).v u' l'] w fun e w' => e = .returned (.bool false) ∧ Below w.heap.size w w' := by
  have p1 : (nonce.toList == nonce'.toList) = false := by rw [bytesEqB]; exact decide_eq_false h
  clear h
  go_enter Tryz.func38, Tryz.ntmps38
  go_wp2_with (first
    | ((with_reducible refine wpList_box_new 39 (.tmp 0) ((⟨kind, epoch, seq, nonce, tag, last, askE, askL, sld, (⟨tE, tL, g, f, at_, here, ahead, up, left, sl, ci⟩ : ToldD), rcp⟩ : MsgD).cells u l) (some 2) ?hgd ?ho ?hd ?hx ?_); (case hgd | ho | hd | hx => rfl); (intro b1 w1 l1 B1 e1 z1))
    | ((with_reducible refine wpList_box_new 39 (.tmp 1) ((⟨kind, epoch, seq, nonce', tag', last', askE', askL', sld', (⟨tE', tL', g', f', at_', here', ahead', up', left', sl', ci'⟩ : ToldD), rcp'⟩ : MsgD).cells u' l') (some 3) ?hgd ?ho ?hd ?hx ?_); (case hgd | ho | hd | hx => rfl); (intro b2 w2 l2 B2 e2 z2); have BB := B1.below e2 (Nat.lt_of_lt_of_le B1.lt l2); have HB2 : Below w.heap.size w w2 := (e1.mono l1).trans (e2.mono (by have := e1.size; omega)); have c0 := BB.cell (i := 0) rfl; have d0 := B2.cell (i := 0) rfl; have c1 := BB.cell (i := 1) rfl; have d1 := B2.cell (i := 1) rfl; have c2 := BB.cell (i := 2) rfl; have d2 := B2.cell (i := 2) rfl; have c3 := BB.cell (i := 3) rfl; have d3 := B2.cell (i := 3) rfl; have c4 := BB.cell (i := 4) rfl; have d4 := B2.cell (i := 4) rfl; have c5 := BB.cell (i := 5) rfl; have d5 := B2.cell (i := 5) rfl; clear B1 B2 BB e1 e2 l1 l2 z1 z2)
    | fail)
  go_ret
  exact ⟨rfl, HB2⟩
set_option maxRecDepth 100000 in
set_option maxHeartbeats 8000000 in
theorem same27_4 (kind : Int) (epoch : Int) (seq : Int) (nonce : ByteArray) (tag tag' : ByteArray) (last last' : ByteArray) (askE askE' : Int) (askL askL' : Int) (sld sld' : Sld) (rcp rcp' : Rcp) (tE tE' : Int) (tL tL' : Int) (g g' : Bool) (sl sl' : Int) (ci ci' : ByteArray) (f f' : Bool) (at_ at_' : Int) (here here' : LeafD) (ahead ahead' : LeafD) (up up' : List ByteArray) (left left' : List ByteArray) (u l u' l' : Value) (w : World) (h : ¬ tag = tag') :
    Calls Tryz.prog 38 #[(⟨kind, epoch, seq, nonce, tag, last, askE, askL, sld, (⟨tE, tL, g, f, at_, here, ahead, up, left, sl, ci⟩ : ToldD), rcp⟩ : MsgD).v u l, (⟨kind, epoch, seq, nonce, tag', last', askE', askL', sld', (⟨tE', tL', g', f', at_', here', ahead', up', left', sl', ci'⟩ : ToldD), rcp'⟩ : MsgD).v u' l'] w fun e w' => e = .returned (.bool false) ∧ Below w.heap.size w w' := by
  have p1 : (tag.toList == tag'.toList) = false := by rw [bytesEqB]; exact decide_eq_false h
  clear h
  go_enter Tryz.func38, Tryz.ntmps38
  go_wp2_with (first
    | ((with_reducible refine wpList_box_new 39 (.tmp 0) ((⟨kind, epoch, seq, nonce, tag, last, askE, askL, sld, (⟨tE, tL, g, f, at_, here, ahead, up, left, sl, ci⟩ : ToldD), rcp⟩ : MsgD).cells u l) (some 2) ?hgd ?ho ?hd ?hx ?_); (case hgd | ho | hd | hx => rfl); (intro b1 w1 l1 B1 e1 z1))
    | ((with_reducible refine wpList_box_new 39 (.tmp 1) ((⟨kind, epoch, seq, nonce, tag', last', askE', askL', sld', (⟨tE', tL', g', f', at_', here', ahead', up', left', sl', ci'⟩ : ToldD), rcp'⟩ : MsgD).cells u' l') (some 3) ?hgd ?ho ?hd ?hx ?_); (case hgd | ho | hd | hx => rfl); (intro b2 w2 l2 B2 e2 z2); have BB := B1.below e2 (Nat.lt_of_lt_of_le B1.lt l2); have HB2 : Below w.heap.size w w2 := (e1.mono l1).trans (e2.mono (by have := e1.size; omega)); have c0 := BB.cell (i := 0) rfl; have d0 := B2.cell (i := 0) rfl; have c1 := BB.cell (i := 1) rfl; have d1 := B2.cell (i := 1) rfl; have c2 := BB.cell (i := 2) rfl; have d2 := B2.cell (i := 2) rfl; have c3 := BB.cell (i := 3) rfl; have d3 := B2.cell (i := 3) rfl; have c4 := BB.cell (i := 4) rfl; have d4 := B2.cell (i := 4) rfl; have c5 := BB.cell (i := 5) rfl; have d5 := B2.cell (i := 5) rfl; clear B1 B2 BB e1 e2 l1 l2 z1 z2)
    | fail)
  go_ret
  exact ⟨rfl, HB2⟩
set_option maxRecDepth 100000 in
set_option maxHeartbeats 8000000 in
theorem same27_5 (kind : Int) (epoch : Int) (seq : Int) (nonce : ByteArray) (tag : ByteArray) (last last' : ByteArray) (askE askE' : Int) (askL askL' : Int) (sld sld' : Sld) (rcp rcp' : Rcp) (tE tE' : Int) (tL tL' : Int) (g g' : Bool) (sl sl' : Int) (ci ci' : ByteArray) (f f' : Bool) (at_ at_' : Int) (here here' : LeafD) (ahead ahead' : LeafD) (up up' : List ByteArray) (left left' : List ByteArray) (u l u' l' : Value) (w : World) (h : ¬ last = last') :
    Calls Tryz.prog 38 #[(⟨kind, epoch, seq, nonce, tag, last, askE, askL, sld, (⟨tE, tL, g, f, at_, here, ahead, up, left, sl, ci⟩ : ToldD), rcp⟩ : MsgD).v u l, (⟨kind, epoch, seq, nonce, tag, last', askE', askL', sld', (⟨tE', tL', g', f', at_', here', ahead', up', left', sl', ci'⟩ : ToldD), rcp'⟩ : MsgD).v u' l'] w fun e w' => e = .returned (.bool false) ∧ Below w.heap.size w w' := by
  have p1 : (last.toList == last'.toList) = false := by rw [bytesEqB]; exact decide_eq_false h
  clear h
  go_enter Tryz.func38, Tryz.ntmps38
  go_wp2_with (first
    | ((with_reducible refine wpList_box_new 39 (.tmp 0) ((⟨kind, epoch, seq, nonce, tag, last, askE, askL, sld, (⟨tE, tL, g, f, at_, here, ahead, up, left, sl, ci⟩ : ToldD), rcp⟩ : MsgD).cells u l) (some 2) ?hgd ?ho ?hd ?hx ?_); (case hgd | ho | hd | hx => rfl); (intro b1 w1 l1 B1 e1 z1))
    | ((with_reducible refine wpList_box_new 39 (.tmp 1) ((⟨kind, epoch, seq, nonce, tag, last', askE', askL', sld', (⟨tE', tL', g', f', at_', here', ahead', up', left', sl', ci'⟩ : ToldD), rcp'⟩ : MsgD).cells u' l') (some 3) ?hgd ?ho ?hd ?hx ?_); (case hgd | ho | hd | hx => rfl); (intro b2 w2 l2 B2 e2 z2); have BB := B1.below e2 (Nat.lt_of_lt_of_le B1.lt l2); have HB2 : Below w.heap.size w w2 := (e1.mono l1).trans (e2.mono (by have := e1.size; omega)); have c0 := BB.cell (i := 0) rfl; have d0 := B2.cell (i := 0) rfl; have c1 := BB.cell (i := 1) rfl; have d1 := B2.cell (i := 1) rfl; have c2 := BB.cell (i := 2) rfl; have d2 := B2.cell (i := 2) rfl; have c3 := BB.cell (i := 3) rfl; have d3 := B2.cell (i := 3) rfl; have c4 := BB.cell (i := 4) rfl; have d4 := B2.cell (i := 4) rfl; have c5 := BB.cell (i := 5) rfl; have d5 := B2.cell (i := 5) rfl; clear B1 B2 BB e1 e2 l1 l2 z1 z2)
    | fail)
  go_ret
  exact ⟨rfl, HB2⟩
set_option maxRecDepth 100000 in
set_option maxHeartbeats 8000000 in
theorem same27_6 (kind : Int) (epoch : Int) (seq : Int) (nonce : ByteArray) (tag : ByteArray) (last : ByteArray) (askE askE' : Int) (askL askL' : Int) (sld sld' : Sld) (rcp rcp' : Rcp) (tE tE' : Int) (tL tL' : Int) (g g' : Bool) (sl sl' : Int) (ci ci' : ByteArray) (f f' : Bool) (at_ at_' : Int) (here here' : LeafD) (ahead ahead' : LeafD) (up up' : List ByteArray) (left left' : List ByteArray) (u l u' l' : Value) (w : World) (h : ¬ askE = askE') :
    Calls Tryz.prog 38 #[(⟨kind, epoch, seq, nonce, tag, last, askE, askL, sld, (⟨tE, tL, g, f, at_, here, ahead, up, left, sl, ci⟩ : ToldD), rcp⟩ : MsgD).v u l, (⟨kind, epoch, seq, nonce, tag, last, askE', askL', sld', (⟨tE', tL', g', f', at_', here', ahead', up', left', sl', ci'⟩ : ToldD), rcp'⟩ : MsgD).v u' l'] w fun e w' => e = .returned (.bool false) ∧ Below w.heap.size w w' := by
  have p1 : (askE == askE') = false := by rw [Bool.eq_false_iff]; simpa using h
  have p2 : decide (askE = askE') = false := decide_eq_false h
  clear h
  go_enter Tryz.func38, Tryz.ntmps38
  go_wp2_with (first
    | ((with_reducible refine wpList_box_new 39 (.tmp 0) ((⟨kind, epoch, seq, nonce, tag, last, askE, askL, sld, (⟨tE, tL, g, f, at_, here, ahead, up, left, sl, ci⟩ : ToldD), rcp⟩ : MsgD).cells u l) (some 2) ?hgd ?ho ?hd ?hx ?_); (case hgd | ho | hd | hx => rfl); (intro b1 w1 l1 B1 e1 z1))
    | ((with_reducible refine wpList_box_new 39 (.tmp 1) ((⟨kind, epoch, seq, nonce, tag, last, askE', askL', sld', (⟨tE', tL', g', f', at_', here', ahead', up', left', sl', ci'⟩ : ToldD), rcp'⟩ : MsgD).cells u' l') (some 3) ?hgd ?ho ?hd ?hx ?_); (case hgd | ho | hd | hx => rfl); (intro b2 w2 l2 B2 e2 z2); have BB := B1.below e2 (Nat.lt_of_lt_of_le B1.lt l2); have HB2 : Below w.heap.size w w2 := (e1.mono l1).trans (e2.mono (by have := e1.size; omega)); have c0 := BB.cell (i := 0) rfl; have d0 := B2.cell (i := 0) rfl; have c1 := BB.cell (i := 1) rfl; have d1 := B2.cell (i := 1) rfl; have c2 := BB.cell (i := 2) rfl; have d2 := B2.cell (i := 2) rfl; have c3 := BB.cell (i := 3) rfl; have d3 := B2.cell (i := 3) rfl; have c4 := BB.cell (i := 4) rfl; have d4 := B2.cell (i := 4) rfl; have c5 := BB.cell (i := 5) rfl; have d5 := B2.cell (i := 5) rfl; have c6 := BB.cell (i := 6) rfl; have d6 := B2.cell (i := 6) rfl; have c7 := BB.cell (i := 7) rfl; have d7 := B2.cell (i := 7) rfl; clear B1 B2 BB e1 e2 l1 l2 z1 z2)
    | fail)
  go_ret
  exact ⟨rfl, HB2⟩
set_option maxRecDepth 100000 in
set_option maxHeartbeats 8000000 in
theorem same27_7 (kind : Int) (epoch : Int) (seq : Int) (nonce : ByteArray) (tag : ByteArray) (last : ByteArray) (askE : Int) (askL askL' : Int) (sld sld' : Sld) (rcp rcp' : Rcp) (tE tE' : Int) (tL tL' : Int) (g g' : Bool) (sl sl' : Int) (ci ci' : ByteArray) (f f' : Bool) (at_ at_' : Int) (here here' : LeafD) (ahead ahead' : LeafD) (up up' : List ByteArray) (left left' : List ByteArray) (u l u' l' : Value) (w : World) (h : ¬ askL = askL') :
    Calls Tryz.prog 38 #[(⟨kind, epoch, seq, nonce, tag, last, askE, askL, sld, (⟨tE, tL, g, f, at_, here, ahead, up, left, sl, ci⟩ : ToldD), rcp⟩ : MsgD).v u l, (⟨kind, epoch, seq, nonce, tag, last, askE, askL', sld', (⟨tE', tL', g', f', at_', here', ahead', up', left', sl', ci'⟩ : ToldD), rcp'⟩ : MsgD).v u' l'] w fun e w' => e = .returned (.bool false) ∧ Below w.heap.size w w' := by
  have p1 : (askL == askL') = false := by rw [Bool.eq_false_iff]; simpa using h
  have p2 : decide (askL = askL') = false := decide_eq_false h
  clear h
  go_enter Tryz.func38, Tryz.ntmps38
  go_wp2_with (first
    | ((with_reducible refine wpList_box_new 39 (.tmp 0) ((⟨kind, epoch, seq, nonce, tag, last, askE, askL, sld, (⟨tE, tL, g, f, at_, here, ahead, up, left, sl, ci⟩ : ToldD), rcp⟩ : MsgD).cells u l) (some 2) ?hgd ?ho ?hd ?hx ?_); (case hgd | ho | hd | hx => rfl); (intro b1 w1 l1 B1 e1 z1))
    | ((with_reducible refine wpList_box_new 39 (.tmp 1) ((⟨kind, epoch, seq, nonce, tag, last, askE, askL', sld', (⟨tE', tL', g', f', at_', here', ahead', up', left', sl', ci'⟩ : ToldD), rcp'⟩ : MsgD).cells u' l') (some 3) ?hgd ?ho ?hd ?hx ?_); (case hgd | ho | hd | hx => rfl); (intro b2 w2 l2 B2 e2 z2); have BB := B1.below e2 (Nat.lt_of_lt_of_le B1.lt l2); have HB2 : Below w.heap.size w w2 := (e1.mono l1).trans (e2.mono (by have := e1.size; omega)); have c0 := BB.cell (i := 0) rfl; have d0 := B2.cell (i := 0) rfl; have c1 := BB.cell (i := 1) rfl; have d1 := B2.cell (i := 1) rfl; have c2 := BB.cell (i := 2) rfl; have d2 := B2.cell (i := 2) rfl; have c3 := BB.cell (i := 3) rfl; have d3 := B2.cell (i := 3) rfl; have c4 := BB.cell (i := 4) rfl; have d4 := B2.cell (i := 4) rfl; have c5 := BB.cell (i := 5) rfl; have d5 := B2.cell (i := 5) rfl; have c6 := BB.cell (i := 6) rfl; have d6 := B2.cell (i := 6) rfl; have c7 := BB.cell (i := 7) rfl; have d7 := B2.cell (i := 7) rfl; clear B1 B2 BB e1 e2 l1 l2 z1 z2)
    | fail)
  go_ret
  exact ⟨rfl, HB2⟩
set_option maxRecDepth 100000 in
set_option maxHeartbeats 8000000 in
theorem same27_8 (kind : Int) (epoch : Int) (seq : Int) (nonce : ByteArray) (tag : ByteArray) (last : ByteArray) (askE : Int) (askL : Int) (sld sld' : Sld) (rcp rcp' : Rcp) (tE tE' : Int) (tL tL' : Int) (g g' : Bool) (sl sl' : Int) (ci ci' : ByteArray) (f f' : Bool) (at_ at_' : Int) (here here' : LeafD) (ahead ahead' : LeafD) (up up' : List ByteArray) (left left' : List ByteArray) (u l u' l' : Value) (w : World) (h : ¬ sld = sld') :
    Calls Tryz.prog 38 #[(⟨kind, epoch, seq, nonce, tag, last, askE, askL, sld, (⟨tE, tL, g, f, at_, here, ahead, up, left, sl, ci⟩ : ToldD), rcp⟩ : MsgD).v u l, (⟨kind, epoch, seq, nonce, tag, last, askE, askL, sld', (⟨tE', tL', g', f', at_', here', ahead', up', left', sl', ci'⟩ : ToldD), rcp'⟩ : MsgD).v u' l'] w fun e w' => e = .returned (.bool false) ∧ Below w.heap.size w w' := by
  have p1 : ∀ w, (Op.equalIn 10000 27 (.agg #[.int .i64 sld.r.kind, .int .i64 sld.r.epoch, .int .i64 sld.r.time, .int .i64 sld.r.count, .int .i64 sld.r.target, .int .i64 sld.r.till, .string sld.r.root, .string sld.r.name, .string sld.tag]) (.agg #[.int .i64 sld'.r.kind, .int .i64 sld'.r.epoch, .int .i64 sld'.r.time, .int .i64 sld'.r.count, .int .i64 sld'.r.target, .int .i64 sld'.r.till, .string sld'.r.root, .string sld'.r.name, .string sld'.tag])).run Tryz.prog w = .ok false w := fun w => by have := eqSld sld sld' w; rw [decide_eq_false h] at this; exact this
  clear h
  go_enter Tryz.func38, Tryz.ntmps38
  go_wp2_with (first
    | ((with_reducible refine wpList_box_new 39 (.tmp 0) ((⟨kind, epoch, seq, nonce, tag, last, askE, askL, sld, (⟨tE, tL, g, f, at_, here, ahead, up, left, sl, ci⟩ : ToldD), rcp⟩ : MsgD).cells u l) (some 2) ?hgd ?ho ?hd ?hx ?_); (case hgd | ho | hd | hx => rfl); (intro b1 w1 l1 B1 e1 z1))
    | ((with_reducible refine wpList_box_new 39 (.tmp 1) ((⟨kind, epoch, seq, nonce, tag, last, askE, askL, sld', (⟨tE', tL', g', f', at_', here', ahead', up', left', sl', ci'⟩ : ToldD), rcp'⟩ : MsgD).cells u' l') (some 3) ?hgd ?ho ?hd ?hx ?_); (case hgd | ho | hd | hx => rfl); (intro b2 w2 l2 B2 e2 z2); have BB := B1.below e2 (Nat.lt_of_lt_of_le B1.lt l2); have HB2 : Below w.heap.size w w2 := (e1.mono l1).trans (e2.mono (by have := e1.size; omega)); have c0 := BB.cell (i := 0) rfl; have d0 := B2.cell (i := 0) rfl; have c1 := BB.cell (i := 1) rfl; have d1 := B2.cell (i := 1) rfl; have c2 := BB.cell (i := 2) rfl; have d2 := B2.cell (i := 2) rfl; have c3 := BB.cell (i := 3) rfl; have d3 := B2.cell (i := 3) rfl; have c4 := BB.cell (i := 4) rfl; have d4 := B2.cell (i := 4) rfl; have c5 := BB.cell (i := 5) rfl; have d5 := B2.cell (i := 5) rfl; have c6 := BB.cell (i := 6) rfl; have d6 := B2.cell (i := 6) rfl; have c7 := BB.cell (i := 7) rfl; have d7 := B2.cell (i := 7) rfl; have c8 := BB.cell (i := 8) rfl; have d8 := B2.cell (i := 8) rfl; have c9 := BB.cell (i := 9) rfl; have d9 := B2.cell (i := 9) rfl; have c10 := BB.cell (i := 10) rfl; have d10 := B2.cell (i := 10) rfl; have c11 := BB.cell (i := 11) rfl; have d11 := B2.cell (i := 11) rfl; have c12 := BB.cell (i := 12) rfl; have d12 := B2.cell (i := 12) rfl; have c13 := BB.cell (i := 13) rfl; have d13 := B2.cell (i := 13) rfl; have c14 := BB.cell (i := 14) rfl; have d14 := B2.cell (i := 14) rfl; have c15 := BB.cell (i := 15) rfl; have d15 := B2.cell (i := 15) rfl; have c16 := BB.cell (i := 16) rfl; have d16 := B2.cell (i := 16) rfl; clear B1 B2 BB e1 e2 l1 l2 z1 z2)
    | fail)
  go_ret
  exact ⟨rfl, HB2⟩
end Go.Proofs.YtidekfbgjghcjaaGreat

