/- SameTold of chapter 26, and Same of chapter 16, at two answers that tell nothing. What a statement's parameters hand to its walk: a call of a volume by value. Walk of Few of chapter 24 at one call. Walk of VolNil. -/
import Derived.Test.YtppdboadjefieaaGreatQ29
import Derived.Test.YtppdboadjefieaaGreatQ4
import Derived.Test.YtppdboadjefieaaGreatQ2
import Derived.Test.YtppdboadjefieaaGreatQ5
import Derived.Lib.SmallJoins
import Derived.Deep.Fields
import Derived.Deep.DeepAppendWide
import Derived.Deep.RegionWith
import Derived.Deep.QuietTactic
import Derived.BigQuiet
import Derived.Test.YtppdboadjefieaaGreatQ26
set_option linter.unusedSimpArgs false
set_option linter.unusedVariables false
namespace Go.Proofs.YtppdboadjefieaaGreat
open Go Go.RowKit
set_option maxRecDepth 100000

theorem texts_nil (w : World) :
    Calls Tryz.prog 46 #[.slice none 0 0, .slice none 0 0] w fun e w' => e = .returned (.bool true) ∧ Below w.heap.size w w' := by
  go_enter Tryz.func46, Tryz.ntmps46
  go_wp2_with fail
  go_loopw [5] (fun k wr => k = .int .i64 0 ∧ wr = w) (fun _ _ => 0)
  case atStart => exact ⟨rfl, rfl⟩
  case round =>
    obtain ⟨rfl, rfl⟩ := hrel
    go_wp2_with fail
    go_ret
    exact ⟨rfl, Below.refl _ _⟩
theorem Blk.part {w : World} {b : Nat} {cs : List Value} {t : TypeId} (h : Blk w b cs t) (o : Nat) (l : List Value) (hl : ∀ j v, l[j]? = some v → cs[o + j]? = some v) : w.rangeAt b o l := fun j v hv => by
  have := h.range (o + j) v (hl j v hv)
  rw [Nat.zero_add] at this
  exact this
theorem eqLeafZ (w : World) : (Op.equalIn 10000 70 (.agg ([.int .i64 0, .string ⟨#[]⟩] : List Value).toArray) (.agg ([.int .i64 0, .string ⟨#[]⟩] : List Value).toArray)).run Tryz.prog w = .ok true w := by kernel_rfl
theorem eqAskZ (w : World) : (Op.equalIn 10000 68 (.agg ([.int .i64 0, .int .i64 0] : List Value).toArray) (.agg ([.int .i64 0, .int .i64 0] : List Value).toArray)).run Tryz.prog w = .ok true w := by kernel_rfl
def proofZ : List Value := [.bool false, .int .i64 0, .int .i64 0, .string ⟨#[]⟩, .int .i64 0, .string ⟨#[]⟩, .slice none 0 0, .slice none 0 0]
theorem szLeafZ : (Tryz.prog.info? 70).map (·.size) = some ([.int .i64 0, .string ⟨#[]⟩] : List Value).length := by kernel_rfl
theorem szAskZ : (Tryz.prog.info? 68).map (·.size) = some ([.int .i64 0, .int .i64 0] : List Value).length := by kernel_rfl
theorem szProofZ : (Tryz.prog.info? 73).map (·.size) = some proofZ.length := by kernel_rfl
theorem proofZ_leaf (k : Nat) (hk : k = 2 ∨ k = 4) (j : Nat) (v : Value) (hv : ([.int .i64 0, .string ⟨#[]⟩] : List Value)[j]? = some v) : proofZ[k + j]? = some v := by
  match j, hv with
  | 0, hv => rcases hk with rfl | rfl <;> exact hv
  | 1, hv => rcases hk with rfl | rfl <;> exact hv
  | j + 2, hv => simp at hv
theorem toldZ_proof (j : Nat) (v : Value) (hv : proofZ[j]? = some v) : toldZ[3 + j]? = some v := by
  match j, hv with
  | 0, hv | 1, hv | 2, hv | 3, hv | 4, hv | 5, hv | 6, hv | 7, hv => exact hv
  | j + 8, hv => simp [proofZ] at hv
theorem toldZ_ask (j : Nat) (v : Value) (hv : ([.int .i64 0, .int .i64 0] : List Value)[j]? = some v) : toldZ[0 + j]? = some v := by
  match j, hv with
  | 0, hv | 1, hv => exact hv
  | j + 2, hv => simp at hv
set_option maxHeartbeats 2000000 in
theorem proofSame0 (w : World) :
    Calls Tryz.prog 76 #[.agg proofZ.toArray, .agg proofZ.toArray] w fun e w' => e = .returned (.bool true) ∧ Below w.heap.size w w' := by
  go_enter Tryz.func76, Tryz.ntmps76
  go_upto_region 1 with (first
    | ((with_reducible refine wpList_box_new 73 (.tmp 0) proofZ (some 2) ?hgd ?ho ?hd ?hx ?_); (case hgd | ho | hd | hx => rfl); (intro b2 w1 l1 B1 e1 z1))
    | ((with_reducible refine wpList_box_new 73 (.tmp 1) proofZ (some 3) ?hgd ?ho ?hd ?hx ?_); (case hgd | ho | hd | hx => rfl); (intro b3 w2 l2 B2 e2 z2))
    | fail)
  have HX2 := Lib.hid (B1.below e2 (Nat.lt_of_lt_of_le z1 l2))
  have HX3 := Lib.hid B2
  have HBE := Lib.hid ((e1.mono l1).trans (e2.mono (Nat.le_trans l1 (Nat.le_trans (Nat.le_of_lt z1) l2))))
  clear B1 B2 e1 e2 l1 l2 z1 z2
  have c0 := HX2.out.cell (i := 0) rfl
  have c1 := HX2.out.cell (i := 1) rfl
  have c6 := HX2.out.cell (i := 6) rfl
  have c7 := HX2.out.cell (i := 7) rfl
  have d0 := HX3.out.cell (i := 0) rfl
  have d1 := HX3.out.cell (i := 1) rfl
  have d6 := HX3.out.cell (i := 6) rfl
  have d7 := HX3.out.cell (i := 7) rfl
  have HR2 := Lib.hid (HX2.out.part 2 [.int .i64 0, .string ⟨#[]⟩] (proofZ_leaf 2 (.inl rfl)))
  have HR4 := Lib.hid (HX2.out.part 4 [.int .i64 0, .string ⟨#[]⟩] (proofZ_leaf 4 (.inr rfl)))
  have HS2 := Lib.hid (HX3.out.part 2 [.int .i64 0, .string ⟨#[]⟩] (proofZ_leaf 2 (.inl rfl)))
  have HS4 := Lib.hid (HX3.out.part 4 [.int .i64 0, .string ⟨#[]⟩] (proofZ_leaf 4 (.inr rfl)))
  go_wp2_with (first
    | ((with_reducible refine wpList_load_met 70 (.tmp 18) b2 2 ([.int .i64 0, .string ⟨#[]⟩]) _ (some 19) (HR2.out) Tryz.underlying70 rfl szLeafZ ?hg ?ho ?hds ?hx ?_); (case ho | hg | hds | hx => rfl))
    | ((with_reducible refine wpList_load_met 70 (.tmp 20) b3 2 ([.int .i64 0, .string ⟨#[]⟩]) _ (some 21) (HS2.out) Tryz.underlying70 rfl szLeafZ ?hg ?ho ?hds ?hx ?_); (case ho | hg | hds | hx => rfl))
    | ((with_reducible refine wpList_eq_agg 70 70 (.tmp 19) (.tmp 21) ([.int .i64 0, .string ⟨#[]⟩]).toArray ([.int .i64 0, .string ⟨#[]⟩]).toArray true (some 22) (by kernel_rfl) (eqLeafZ _) ?hg ?ho ?hd ?hx ?hy ?_); (case ho | hg | hd | hx | hy => rfl))
    | ((with_reducible refine wpList_load_met 70 (.tmp 25) b2 4 ([.int .i64 0, .string ⟨#[]⟩]) _ (some 26) (HR4.out) Tryz.underlying70 rfl szLeafZ ?hg ?ho ?hds ?hx ?_); (case ho | hg | hds | hx => rfl))
    | ((with_reducible refine wpList_load_met 70 (.tmp 27) b3 4 ([.int .i64 0, .string ⟨#[]⟩]) _ (some 28) (HS4.out) Tryz.underlying70 rfl szLeafZ ?hg ?ho ?hds ?hx ?_); (case ho | hg | hds | hx => rfl))
    | ((with_reducible refine wpList_eq_agg 70 70 (.tmp 26) (.tmp 28) ([.int .i64 0, .string ⟨#[]⟩]).toArray ([.int .i64 0, .string ⟨#[]⟩]).toArray true (some 29) (by kernel_rfl) (eqLeafZ _) ?hg ?ho ?hd ?hx ?hy ?_); (case ho | hg | hd | hx | hy => rfl))
    | fail)
  refine (texts_nil _).mono ?_
  rintro e w3 ⟨rfl, hb3⟩
  have x7 : w3.cell? ⟨b2, 7, none⟩ = some (.slice none 0 0) := (HX2.out.below hb3 HX2.out.lt).cell (i := 7) rfl
  have y7 : w3.cell? ⟨b3, 7, none⟩ = some (.slice none 0 0) := (HX3.out.below hb3 HX3.out.lt).cell (i := 7) rfl
  have HBE3 := Lib.hid (HBE.out.trans (hb3.mono HBE.out.size))
  clear hb3 c0 c1 c6 c7 d0 d1 d6 d7
  go_wp2_with fail
  refine (texts_nil _).mono ?_
  rintro e w4 ⟨rfl, hb4⟩
  have HBE4 := Lib.hid (HBE3.out.trans (hb4.mono HBE3.out.size))
  clear hb4
  go_wp2_with fail
  go_ret
  exact ⟨rfl, HBE4.out⟩
set_option maxHeartbeats 2000000 in
theorem told_same0 (w : World) :
    Calls Tryz.prog 23 #[.agg toldZ.toArray, .agg toldZ.toArray] w fun e w' => e = .returned (.bool true) ∧ Below w.heap.size w w' := by
  go_enter Tryz.func23, Tryz.ntmps23
  go_upto_region 1 with (first
    | ((with_reducible refine wpList_box_new 75 (.tmp 0) toldZ (some 2) ?hgd ?ho ?hd ?hx ?_); (case hgd | ho | hd | hx => rfl); (intro b2 w1 l1 B1 e1 z1))
    | ((with_reducible refine wpList_box_new 75 (.tmp 1) toldZ (some 3) ?hgd ?ho ?hd ?hx ?_); (case hgd | ho | hd | hx => rfl); (intro b3 w2 l2 B2 e2 z2))
    | fail)
  have HX2 := Lib.hid (B1.below e2 (Nat.lt_of_lt_of_le z1 l2))
  have HX3 := Lib.hid B2
  have HBE := Lib.hid ((e1.mono l1).trans (e2.mono (Nat.le_trans l1 (Nat.le_trans (Nat.le_of_lt z1) l2))))
  clear B1 B2 e1 e2 l1 l2 z1 z2
  have c2 := HX2.out.cell (i := 2) rfl
  have c11 := HX2.out.cell (i := 11) rfl
  have c12 := HX2.out.cell (i := 12) rfl
  have d2 := HX3.out.cell (i := 2) rfl
  have d11 := HX3.out.cell (i := 11) rfl
  have d12 := HX3.out.cell (i := 12) rfl
  have HR0 := Lib.hid (HX2.out.part 0 [.int .i64 0, .int .i64 0] toldZ_ask)
  have HS0 := Lib.hid (HX3.out.part 0 [.int .i64 0, .int .i64 0] toldZ_ask)
  have HR3 := Lib.hid (HX2.out.part 3 proofZ toldZ_proof)
  have HS3 := Lib.hid (HX3.out.part 3 proofZ toldZ_proof)
  go_wp2_with (first
    | ((with_reducible refine wpList_load_met 68 (.tmp 5) b2 0 ([.int .i64 0, .int .i64 0]) _ (some 6) (HR0.out) Tryz.underlying68 rfl szAskZ ?hg ?ho ?hds ?hx ?_); (case ho | hg | hds | hx => rfl))
    | ((with_reducible refine wpList_load_met 68 (.tmp 7) b3 0 ([.int .i64 0, .int .i64 0]) _ (some 8) (HS0.out) Tryz.underlying68 rfl szAskZ ?hg ?ho ?hds ?hx ?_); (case ho | hg | hds | hx => rfl))
    | ((with_reducible refine wpList_eq_agg 68 68 (.tmp 6) (.tmp 8) ([.int .i64 0, .int .i64 0]).toArray ([.int .i64 0, .int .i64 0]).toArray true (some 9) (by kernel_rfl) (eqAskZ _) ?hg ?ho ?hd ?hx ?hy ?_); (case ho | hg | hd | hx | hy => rfl))
    | ((with_reducible refine wpList_load_met 73 (.tmp 32) b2 3 (proofZ) _ (some 33) (HR3.out) Tryz.underlying73 rfl szProofZ ?hg ?ho ?hds ?hx ?_); (case ho | hg | hds | hx => rfl))
    | ((with_reducible refine wpList_load_met 73 (.tmp 34) b3 3 (proofZ) _ (some 35) (HS3.out) Tryz.underlying73 rfl szProofZ ?hg ?ho ?hds ?hx ?_); (case ho | hg | hds | hx => rfl))
    | fail)
  refine (proofSame0 _).mono ?_
  rintro e w3 ⟨rfl, hb3⟩
  have HBE3 := Lib.hid (HBE.out.trans (hb3.mono HBE.out.size))
  clear hb3
  go_wp2_with fail
  go_ret
  exact ⟨rfl, HBE3.out⟩
end Go.Proofs.YtppdboadjefieaaGreat

namespace Go.Proofs.YtppdboadjefieaaGreat
open Go Go.RowKit Go.ChangeShapes Go.WideShapes Go.Deep

structure CallD where
  kind : Int
  lba : Int
  epoch : Int
  time : Int
  data : ByteArray
  name : ByteArray
  kp : Option Addr
  kn : Nat
  kc : Nat
def CallD.cells (c : CallD) : List Value := [.int .i64 c.kind, .int .i64 c.lba, .int .i64 c.epoch, .int .i64 c.time, .string c.data, .string c.name, .slice c.kp c.kn c.kc]
def CallD.v (c : CallD) : Value := .agg c.cells.toArray
section
variable {H : Type} {enc : TypeId × Value → H} {w : World} {base : Nat} {spare : Nat → Bool} {held : Bool}
theorem slc_trod {t e : TypeId} {fuel : Nat} {cs : List Value} {x : DataW H × List MemPlace} (ht : Tryz.prog.underlying t = some (.slice e)) (h : DataW.trod enc Tryz.prog w base spare held fuel t cs = some x) : ∃ p n c, cs = [.slice p n c] ∧ n ≤ 9223372036854775807 := by
  rcases DataW.trod_slice ht h with h0 | ⟨a, len, cap, elems, rest, n, _, rfl, rfl, hb, hl, hm, _⟩
  · exact ⟨none, 0, 0, by first | exact h0.1 | exact h0, by omega⟩
  · exact ⟨some a, len, cap, rfl, by have : maxLen = 9223372036854775807 := rfl; omega⟩
set_option maxRecDepth 100000 in
theorem call_trod {fuel : Nat} {cs : List Value} {x : DataW H × List MemPlace} (h : DataW.trod enc Tryz.prog w base spare held fuel 60 cs = some x) : ∃ c : CallD, cs = c.cells ∧ c.kn ≤ 9223372036854775807 := by
  obtain ⟨xs, n, _, _, hl, hlen, hf⟩ := DataW.trod_struct Tryz.underlying60 h
  have hc : Tryz.prog.cellsOf 60 = 7 := by kernel_rfl
  have kk0 : Tryz.prog.cellsOf 58 = 1 := by kernel_rfl
  have kk1 : Tryz.prog.cellsOf 3 = 1 := by kernel_rfl
  have kk2 : Tryz.prog.cellsOf 9 = 1 := by kernel_rfl
  rw [hc] at hl
  match xs, hlen with
  | [y0, y1, y2, y3, y4, y5, y6], _ =>
    have g0 : DataW.trod enc Tryz.prog w base spare held n 3 (List.take (Tryz.prog.cellsOf 3) (List.drop 0 cs)) = some y0 := hf 0 _ rfl
    rw [kk1] at g0
    have g1 : DataW.trod enc Tryz.prog w base spare held n 3 (List.take (Tryz.prog.cellsOf 3) (List.drop 1 cs)) = some y1 := hf 1 _ rfl
    rw [kk1] at g1
    have g2 : DataW.trod enc Tryz.prog w base spare held n 3 (List.take (Tryz.prog.cellsOf 3) (List.drop 2 cs)) = some y2 := hf 2 _ rfl
    rw [kk1] at g2
    have g3 : DataW.trod enc Tryz.prog w base spare held n 3 (List.take (Tryz.prog.cellsOf 3) (List.drop 3 cs)) = some y3 := hf 3 _ rfl
    rw [kk1] at g3
    have g4 : DataW.trod enc Tryz.prog w base spare held n 9 (List.take (Tryz.prog.cellsOf 9) (List.drop 4 cs)) = some y4 := hf 4 _ rfl
    rw [kk2] at g4
    have g5 : DataW.trod enc Tryz.prog w base spare held n 9 (List.take (Tryz.prog.cellsOf 9) (List.drop 5 cs)) = some y5 := hf 5 _ rfl
    rw [kk2] at g5
    have g6 : DataW.trod enc Tryz.prog w base spare held n 58 (List.take (Tryz.prog.cellsOf 58) (List.drop 6 cs)) = some y6 := hf 6 _ rfl
    rw [kk0] at g6
    obtain ⟨n0, e0, _, f0⟩ := DataW.trod_int Tryz.underlying3 g0
    obtain ⟨n1, e1, _, f1⟩ := DataW.trod_int Tryz.underlying3 g1
    obtain ⟨n2, e2, _, f2⟩ := DataW.trod_int Tryz.underlying3 g2
    obtain ⟨n3, e3, _, f3⟩ := DataW.trod_int Tryz.underlying3 g3
    obtain ⟨n4, e4, _, f4⟩ := DataW.trod_string Tryz.underlying9 g4
    obtain ⟨n5, e5, _, f5⟩ := DataW.trod_string Tryz.underlying9 g5
    obtain ⟨p6, n6, c6, e6, f6⟩ := slc_trod Tryz.underlying58 g6
    have ee : cs = (cs.drop 0).take 1 ++ ((cs.drop 1).take 1 ++ ((cs.drop 2).take 1 ++ ((cs.drop 3).take 1 ++ ((cs.drop 4).take 1 ++ ((cs.drop 5).take 1 ++ ((cs.drop 6).take 1)))))) := by
      match cs, hl with
      | [_, _, _, _, _, _, _], _ => rfl
    rw [ee, e0, e1, e2, e3, e4, e5, e6]
    exact ⟨⟨n0, n1, n2, n3, n4, n5, p6, n6, c6⟩, rfl, f6⟩
theorem call_in {v : Value} {d : DataW H} {ps : List MemPlace} (hv : ∃ cs, v = .agg cs ∧ cs.size = Tryz.prog.cellsOf 60) (h : DataW.Trod enc Tryz.prog w base spare held 60 v d ps) : ∃ c : CallD, v = c.v ∧ c.kn ≤ 9223372036854775807 := by
  obtain ⟨cs, rfl, _⟩ := hv
  obtain ⟨fuel, hf⟩ := h
  obtain ⟨c, hx, hfit⟩ := call_trod hf
  refine ⟨c, ?_, hfit⟩
  have : cs.toList = c.cells := by simpa [Value.cells] using hx
  show Value.agg cs = Value.agg c.cells.toArray
  rw [← this]
end
end Go.Proofs.YtppdboadjefieaaGreat

namespace Go.Proofs.YtppdboadjefieaaGreat
open Go Go.RowKit

theorem infoCall : (Tryz.prog.info? 60).map (fun i => (i.zero, i.size, i.bytes)) = some (some (.agg #[.int .i64 0, .int .i64 0, .int .i64 0, .int .i64 0, .string ByteArray.empty, .string ByteArray.empty, .slice none 0 0]), 7, 88) := by kernel_rfl
theorem sizeCall {c : CallD} : (Tryz.prog.info? 60).map (·.size) = some c.cells.length := by kernel_rfl
def SomeBool (e : Ending) : Prop := ∃ q : Bool, e = .returned (.bool q)
set_option maxRecDepth 100000 in
set_option maxHeartbeats 2000000 in
theorem few24_one (g cap : Nat) (c : CallD) (w : World) (h : w.rangeAt g 0 c.cells) (hc : 1 ≤ cap) (hk : c.kn ≤ 9223372036854775807) :
    Calls Tryz.prog 8 #[.slice (some ⟨g, 0, none⟩) 1 cap] w fun e w' => SomeBool e ∧ Below w.heap.size w w' := by
  have c4 : w.cell? ⟨g, 4, none⟩ = some (.string c.data) := by have := h 4 _ rfl; simpa using this
  have c5 : w.cell? ⟨g, 5, none⟩ = some (.string c.name) := by have := h 5 _ rfl; simpa using this
  have c6 : w.cell? ⟨g, 6, none⟩ = some (.slice c.kp c.kn c.kc) := by have := h 6 _ rfl; simpa using this
  have HC := Lib.hid (And.intro c4 (And.intro c5 c6))
  clear c4 c5 c6 h
  obtain ⟨a, ha⟩ : ∃ a : Nat, a = min c.data.size 10000 := ⟨_, rfl⟩
  obtain ⟨b, hb⟩ : ∃ b : Nat, b = min c.name.size 10000 := ⟨_, rfl⟩
  obtain ⟨d, hd⟩ : ∃ d : Nat, d = min c.kn 10000 := ⟨_, rfl⟩
  have ha1 : a ≤ 10000 := by omega
  have hb1 : b ≤ 10000 := by omega
  have hd1 : d ≤ 10000 := by omega
  have e1 : min (c.data.size : Int) 10000 = (a : Int) := by omega
  have e2 : min (c.name.size : Int) 10000 = (b : Int) := by omega
  have e3 : min (c.kn : Int) 10000 = (d : Int) := by omega
  have HE := Lib.hid (And.intro e1 (And.intro e2 e3))
  clear ha hb hd e1 e2 e3
  go_enter Tryz.func8, Tryz.ntmps8
  go_wp2_with fail
  go_loopw [3, 4] (fun vn vi wr => ∃ k m : Nat, k ≤ 1 ∧ vi = .int .i64 k ∧ vn = .int .i64 m ∧ m ≤ 30000 * k ∧ Below w.heap.size w wr) (fun _ vi _ => 1 - (intOf vi).toNat)
  case atStart => exact ⟨0, 0, by omega, rfl, rfl, by omega, Below.refl _ _⟩
  case round =>
    obtain ⟨k, m, hk1, rfl, rfl, hm, hbel⟩ := hrel
    have HB := Lib.hid hbel
    clear hbel
    by_cases hk0 : k = 0
    · subst hk0
      obtain rfl : m = 0 := by omega
      have hgl : g < w.heap.size := by
        by_cases hg : g < w.heap.size
        · exact hg
        · have h1 : w.heap[g]? = none := Array.getElem?_eq_none (by omega)
          have h2 := HC.out.1
          simp [World.cell?, h1] at h2
      have d4 : wr.cell? ⟨g, 4, none⟩ = some (.string c.data) := by rw [HB.out.cell (by show g < w.heap.size; exact hgl)]; exact HC.out.1
      have d5 : wr.cell? ⟨g, 5, none⟩ = some (.string c.name) := by rw [HB.out.cell (by show g < w.heap.size; exact hgl)]; exact HC.out.2.1
      have d6 : wr.cell? ⟨g, 6, none⟩ = some (.slice c.kp c.kn c.kc) := by rw [HB.out.cell (by show g < w.heap.size; exact hgl)]; exact HC.out.2.2
      have e1 := HE.out.1
      have e2 := HE.out.2.1
      have e3 := HE.out.2.2
      go_wp2_with fail
      go_quiet (fail)
      go_wp2_with fail
      go_roundw
      case rel => exact ⟨1, a + b + d, by omega, by go_num, by go_num, by omega, Below.drewN HB.out _⟩
      case measure => simp [intOf]
    · obtain rfl : k = 1 := by omega
      by_cases hm2 : m ≤ 12000
      · have hm3 : (m : Int) ≤ 12000 := by omega
        go_wp2_with fail
        go_ret
        exact ⟨⟨_, rfl⟩, HB.out⟩
      · have hm3 : ¬ (m : Int) ≤ 12000 := by omega
        go_wp2_with fail
        go_ret
        exact ⟨⟨_, rfl⟩, HB.out⟩
end Go.Proofs.YtppdboadjefieaaGreat

namespace Go.Proofs.YtppdboadjefieaaGreat
open Go Go.RowKit
set_option maxRecDepth 100000

theorem eqStatZ (w : World) : (Op.equalIn 10000 81 (.agg statZ.toArray) (.agg statZ.toArray)).run Tryz.prog w = .ok true w := by kernel_rfl
theorem eqAnsZ (w : World) : (Op.equalIn 10000 89 (.agg (ansE 1).toArray) (.agg (ansE 1).toArray)).run Tryz.prog w = .ok true w := by kernel_rfl
theorem eqGeoZ (w : World) : (Op.equalIn 10000 23 (.agg GeoD.zero.cells.toArray) (.agg GeoD.zero.cells.toArray)).run Tryz.prog w = .ok true w := by kernel_rfl
set_option maxHeartbeats 8000000 in
theorem volNil_walk (c : CallD) (there : Bool) (w : World) (hk : c.kn ≤ 9223372036854775807) :
    Calls Tryz.prog 5 #[c.v, .bool there] w fun e w' => e = .returned (.bool true) ∧ Below w.heap.size w w' := by
  have HK := Lib.hid hk
  clear hk
  go_enter Tryz.func5, Tryz.ntmps5
  go_wp2_with (first
    | ((with_reducible refine wpList_box_new 60 (.tmp 0) c.cells (some 2) ?hgd ?ho ?hd ?hx ?_); (case hgd | ho | hd | hx => rfl); (intro b2 w1 l1 B1 e1 z1))
    | ((with_reducible refine wpList_load_met 60 (.tmp 2) b2 0 (c.cells) _ (some 19) (B1.range) Tryz.underlying60 rfl sizeCall ?hg ?ho ?hds ?hx ?_); (case ho | hg | hds | hx => rfl))
    | ((with_reducible refine wpList_slice_new 27 60 1 ?parts c.cells (.agg #[.int .i64 0, .int .i64 0, .int .i64 0, .int .i64 0, .string ByteArray.empty, .string ByteArray.empty, .slice none 0 0]) 7 88 (some 20) Tryz.underlying27 infoCall (by omega) (by omega) ?hgd ?ho ?hd ?hf ?_); (case hgd | ho | hd => rfl); (case hf => kernel_rfl); (intro g2 w2 l2 B2 e2 z2))
    | fail)
  have hb2 : Below w.heap.size w w2 := (e1.mono l1).trans (e2.mono (Nat.le_trans l1 (Nat.le_trans (Nat.le_of_lt z1) l2)))
  have HBE2 := Lib.hid hb2
  have HB02 := Lib.hid (B1.below e2 (Nat.lt_of_lt_of_le z1 l2))
  have HG2 := Lib.hid B2
  clear B1 e1 z1 l1 B2 e2 z2 l2 hb2
  refine (few24_one g2 1 c _ HG2.out.range (Nat.le_refl _) HK.out).mono ?_
  rintro e w3 ⟨⟨q, rfl⟩, hb3⟩
  have HBE := Lib.hid (HBE2.out.trans (hb3.mono HBE2.out.size))
  have HB2 := Lib.hid (HB02.out.below hb3 HB02.out.lt)
  clear hb3 HBE2 HB02 HG2
  cases q with
  | false =>
    go_wp2_with fail
    refine (alive26 _).mono ?_
    rintro e w4 ⟨rfl, hb4⟩
    have HBE4 := Lib.hid (HBE.out.trans (hb4.mono HBE.out.size))
    clear hb4
    go_wp2_with fail
    go_ret
    exact ⟨rfl, HBE4.out⟩
  | true =>
    cases there with
    | false =>
      have HN := Lib.hid (show VolNone w3 (.pointer none) from .inl rfl)
      go_wp2_with fail
      refine (vnone_close _ _ (HN.out)).mono ?_
      rintro e wa ⟨rfl, hba⟩
      have HBa := Lib.hid (HB2.out.below hba HB2.out.lt)
      have HNa := Lib.hid (HN.out.below hba)
      have HBEa := Lib.hid (HBE.out.trans (hba.mono HBE.out.size))
      clear hba
      go_upto_region 7 with (first
        | ((with_reducible refine wpList_alloc_new 64 _ zeroRcp (some 6) ?hgd ?ho ?hd ?_); (case hgd | ho | hd => rfl); (intro b6 wb lb Bb eb zb))
        | ((with_reducible refine wpList_store_new 64 (.tmp 6) (.tmp 30) b6 Rcp.zero.cells Rcp.zero.cells 64 Bb rfl rsizeRcp (Rcp.cells_one _) ?hgd ?ho ?hx ?hy ?_); (case hgd | ho | hx | hy => rfl); (intro wc Bc oc))
        | fail)
      have hbc : Below wa.heap.size wa wc := oc.below (eb.mono lb) lb
      have HXc := Lib.hid Bc
      have HBc := Lib.hid (HBa.out.below hbc HBa.out.lt)
      have HNc := Lib.hid (HNa.out.below hbc)
      have HBEc := Lib.hid (HBEa.out.trans (hbc.mono HBEa.out.size))
      clear Bb eb zb lb Bc oc hbc
      have q1 := HBc.out.cell (i := 1) rfl
      have q2 := HBc.out.cell (i := 2) rfl
      go_wp2_with (first
        | ((with_reducible refine wpList_build_eq 68 ?partsk [.int .i64 c.epoch, .int .i64 c.lba] ?hg ?ho ?hf ?_); (case hg | ho => rfl); (case hf => exact builtAskEL _ _))
        | fail)
      refine (vnone_told _ c.epoch c.lba _ HNc.out).mono ?_
      rintro e wd ⟨rfl, hbd⟩
      have HXd := Lib.hid (HXc.out.below hbd HXc.out.lt)
      have HBd := Lib.hid (HBc.out.below hbd HBc.out.lt)
      have HNd := Lib.hid (HNc.out.below hbd)
      have HBEd := Lib.hid (HBEc.out.trans (hbd.mono HBEc.out.size))
      clear hbd q1 q2
      go_upto_region 8 with (first
        | ((with_reducible refine wpList_alloc_new 75 _ zeroToldZ (some 8) ?hgd ?ho ?hd ?_); (case hgd | ho | hd => rfl); (intro b8 we le Be ee ze))
        | ((with_reducible refine wpList_store_new 75 (.tmp 8) (.tmp 40) b8 toldZ toldZ 75 Be rfl sizeToldZ oneToldZ ?hgd ?ho ?hx ?hy ?_); (case hgd | ho | hx | hy => rfl); (intro wf Bf of))
        | fail)
      have hbf : Below wd.heap.size wd wf := of.below (ee.mono le) le
      have HYf := Lib.hid Bf
      have HXf := Lib.hid (HXd.out.below hbf HXd.out.lt)
      have HBf := Lib.hid (HBd.out.below hbf HBd.out.lt)
      have HNf := Lib.hid (HNd.out.below hbf)
      have HBEf := Lib.hid (HBEd.out.trans (hbf.mono HBEd.out.size))
      clear Be ee ze le Bf of hbf
      go_wp2_with fail
      refine (vnone_secrets _ _ HNf.out).mono ?_
      rintro e w' ⟨rfl, rfl⟩
      go_wp2_with fail
      refine (vnone_stat _ _ HNf.out).mono ?_
      rintro e wg ⟨rfl, hbg⟩
      have HYg := Lib.hid (HYf.out.below hbg HYf.out.lt)
      have HXg := Lib.hid (HXf.out.below hbg HXf.out.lt)
      have HBg := Lib.hid (HBf.out.below hbg HBf.out.lt)
      have HNg := Lib.hid (HNf.out.below hbg)
      have HBEg := Lib.hid (HBEf.out.trans (hbg.mono HBEf.out.size))
      clear hbg
      go_upto_region 10 with (first
        | ((with_reducible refine wpList_alloc_new 81 _ zeroStatZ (some 13) ?hgd ?ho ?hd ?_); (case hgd | ho | hd => rfl); (intro b13 wh lh Bh eh zh))
        | ((with_reducible refine wpList_store_new 81 (.tmp 13) (.tmp 51) b13 statZ statZ 81 Bh rfl sizeStatZ oneStatZ ?hgd ?ho ?hx ?hy ?_); (case hgd | ho | hx | hy => rfl); (intro wi Bi oi))
        | fail)
      have hbi : Below wg.heap.size wg wi := oi.below (eh.mono lh) lh
      have HZi := Lib.hid Bi
      have HYi := Lib.hid (HYg.out.below hbi HYg.out.lt)
      have HXi := Lib.hid (HXg.out.below hbi HXg.out.lt)
      have HBi := Lib.hid (HBg.out.below hbi HBg.out.lt)
      have HNi := Lib.hid (HNg.out.below hbi)
      have HBEi := Lib.hid (HBEg.out.trans (hbi.mono HBEg.out.size))
      clear Bh eh zh lh Bi oi hbi
      go_wp2_with (first
        | ((with_reducible refine wpList_load_met 64 (.tmp 6) b6 0 (Rcp.zero.cells) _ (some 53) (HXi.out.range) Tryz.underlying64 rfl rsizeRcp ?hg ?ho ?hds ?hx ?_); (case ho | hg | hds | hx => rfl))
        | ((with_reducible refine wpList_build_eq 64 ?partsr Rcp.zero.cells ?hg ?ho ?hf ?_); (case hg | ho => rfl); (case hf => exact builtRcp0))
        | ((with_reducible refine wpList_neq_agg 64 64 (.tmp 53) (.tmp 54) (Rcp.zero.cells).toArray (Rcp.zero.cells).toArray true (some 55) (by kernel_rfl) (eqRcpT Rcp.zero _) ?hg ?ho ?hd ?hx ?hy ?_); (case ho | hg | hd | hx | hy => rfl))
        | ((with_reducible refine wpList_load_met 75 (.tmp 8) b8 0 (toldZ) _ (some 61) (HYi.out.range) Tryz.underlying75 rfl sizeToldZ ?hg ?ho ?hds ?hx ?_); (case ho | hg | hds | hx => rfl))
        | ((with_reducible refine wpList_build_eq 75 ?parts62 toldZ ?hg ?ho ?hf ?_); (case hg | ho => rfl); (case hf => exact builtToldZ))
        | fail)
      refine (told_same0 _).mono ?_
      rintro e wj ⟨rfl, hbj⟩
      have HZj := Lib.hid (HZi.out.below hbj HZi.out.lt)
      have HBj := Lib.hid (HBi.out.below hbj HBi.out.lt)
      have HNj := Lib.hid (HNi.out.below hbj)
      have HBEj := Lib.hid (HBEi.out.trans (hbj.mono HBEi.out.size))
      clear hbj HXi HYi HZi HBi HNi HBEi
      have es0 : (((⟨#[]⟩ : ByteArray) ++ (⟨#[]⟩ : ByteArray)).toList == (⟨#[]⟩ : ByteArray).toList) = true := by decide +kernel
      have es1 : ((⟨#[]⟩ : ByteArray) ++ (⟨#[]⟩ : ByteArray)).toList.isEmpty = true := by decide +kernel
      go_wp2_with (first
        | ((with_reducible refine wpList_load_met 81 (.tmp 13) b13 0 (statZ) _ (some 81) (HZj.out.range) Tryz.underlying81 rfl sizeStatZ ?hg ?ho ?hds ?hx ?_); (case ho | hg | hds | hx => rfl))
        | ((with_reducible refine wpList_build_eq 81 ?parts82 statZ ?hg ?ho ?hf ?_); (case hg | ho => rfl); (case hf => exact builtStatZ))
        | ((with_reducible refine wpList_neq_agg 81 81 (.tmp 81) (.tmp 82) (statZ).toArray (statZ).toArray true (some 83) (by kernel_rfl) (eqStatZ _) ?hg ?ho ?hd ?hx ?hy ?_); (case ho | hg | hd | hx | hy => rfl))
        | ((with_reducible refine wpList_build_eq 23 ?partsg (GeoD.cells ⟨8, 1, 0⟩) ?hg ?ho ?hf ?_); (case hg | ho => rfl); (case hf => exact builtGeo8))
        | fail)
      refine (nil_format ⟨8, 1, 0⟩ (⟨#[48, 49, 50, 51, 52, 53, 54, 55, 56, 57, 97, 98, 99, 100, 101, 102, 48, 49, 50, 51, 52, 53, 54, 55, 56, 57, 97, 98, 99, 100, 101, 102]⟩ : ByteArray) _ ⟨by decide, by decide, by decide, by decide, by decide, by decide⟩ (by decide)).mono ?_
      rintro e wk ⟨rfl, hbk⟩
      have HBk := Lib.hid (HBj.out.below hbk HBj.out.lt)
      have HNk := Lib.hid (HNj.out.below hbk)
      have HBEk := Lib.hid (HBEj.out.trans (hbk.mono HBEj.out.size))
      clear hbk es0 es1
      go_wp2_with fail
      refine (nil_mount _ _ ?_).mono ?_
      · decide
      rintro e w' ⟨rfl, rfl⟩
      go_wp2_with (first
        | ((with_reducible refine wpList_load_met 60 (.tmp 2) b2 0 (c.cells) _ (some 100) (HBk.out.range) Tryz.underlying60 rfl sizeCall ?hg ?ho ?hds ?hx ?_); (case ho | hg | hds | hx => rfl))
        | fail)
      refine (vnone_do _ c.cells _ HNk.out).mono ?_
      rintro e wl ⟨rfl, hbl⟩
      have HBl := Lib.hid (HBk.out.below hbl HBk.out.lt)
      have HNl := Lib.hid (HNk.out.below hbl)
      have HBEl := Lib.hid (HBEk.out.trans (hbl.mono HBEk.out.size))
      clear hbl
      go_wp2_with (first
        | ((with_reducible refine wpList_build_eq 89 ?partsa (ansE 1) ?hg ?ho ?hf ?_); (case hg | ho => rfl); (case hf => exact builtAnsE 1))
        | ((with_reducible refine wpList_eq_agg 89 89 (.tmp 101) (.tmp 102) (ansE 1).toArray (ansE 1).toArray true (some 103) (by kernel_rfl) (eqAnsZ _) ?hg ?ho ?hd ?hx ?hy ?_); (case ho | hg | hd | hx | hy => rfl))
        | fail)
      refine (vnone_sealed _ _ HNl.out).mono ?_
      rintro e w' ⟨rfl, rfl⟩
      go_wp2_with fail
      refine (vnone_geo _ _ HNl.out).mono ?_
      rintro e wm ⟨rfl, hbm⟩
      have HBm := Lib.hid (HBl.out.below hbm HBl.out.lt)
      have HNm := Lib.hid (HNl.out.below hbm)
      have HBEm := Lib.hid (HBEl.out.trans (hbm.mono HBEl.out.size))
      clear hbm
      have q2 := HBm.out.cell (i := 2) rfl
      have q5 := HBm.out.cell (i := 5) rfl
      have q3 := HBm.out.cell (i := 3) rfl
      go_wp2_with (first
        | ((with_reducible refine wpList_build_eq 23 ?parts113 GeoD.zero.cells ?hg ?ho ?hf ?_); (case hg | ho => rfl); (case hf => exact builtGeo0))
        | ((with_reducible refine wpList_eq_agg 23 23 (.tmp 112) (.tmp 113) (GeoD.zero.cells).toArray (GeoD.zero.cells).toArray true (some 114) (by kernel_rfl) (eqGeoZ _) ?hg ?ho ?hd ?hx ?hy ?_); (case ho | hg | hd | hx | hy => rfl))
        | fail)
      refine (vnone_hold _ c.epoch c.name _ HNm.out).mono ?_
      rintro e w' ⟨rfl, rfl⟩
      go_wp2_with fail
      refine (vnone_retain _ c.epoch c.time _ HNm.out).mono ?_
      rintro e w' ⟨rfl, rfl⟩
      go_wp2_with fail
      refine (vnone_release _ c.name _ HNm.out).mono ?_
      rintro e w' ⟨rfl, rfl⟩
      go_wp2_with fail
      refine (alive26 _).mono ?_
      rintro e wn ⟨rfl, hbn⟩
      have HBEn := Lib.hid (HBEm.out.trans (hbn.mono HBEm.out.size))
      clear hbn
      go_wp2_with fail
      go_ret
      exact ⟨rfl, HBEn.out⟩
    | true =>
      go_upto_region 6 with (first
        | ((with_reducible refine wpList_build_eq 50 ?partsv volZero ?hg ?ho ?hf ?_); (case hg | ho => rfl); (case hf => exact builtVolZ))
        | ((with_reducible refine wpList_box_new 50 (.tmp 25) volZero (some 26) ?hgd ?ho ?hd ?hx ?_); (case hgd | ho | hd | hx => rfl); (intro b26 wv lv Bv ev zv))
        | fail)
      have HN := Lib.hid (show VolNone wv (.pointer (some ⟨b26, 0, none⟩)) from .inr ⟨b26, rfl, Bv⟩)
      have hbv : Below w3.heap.size w3 wv := ev.mono lv
      have HB2x := Lib.hid (HB2.out.below hbv HB2.out.lt)
      have HBEx := Lib.hid (HBE.out.trans (hbv.mono HBE.out.size))
      clear HB2 HBE Bv ev zv lv hbv
      have HB2 := HB2x
      have HBE := HBEx
      clear HB2x HBEx
      go_wp2_with fail
      refine (vnone_close _ _ (HN.out)).mono ?_
      rintro e wa ⟨rfl, hba⟩
      have HBa := Lib.hid (HB2.out.below hba HB2.out.lt)
      have HNa := Lib.hid (HN.out.below hba)
      have HBEa := Lib.hid (HBE.out.trans (hba.mono HBE.out.size))
      clear hba
      go_upto_region 7 with (first
        | ((with_reducible refine wpList_alloc_new 64 _ zeroRcp (some 6) ?hgd ?ho ?hd ?_); (case hgd | ho | hd => rfl); (intro b6 wb lb Bb eb zb))
        | ((with_reducible refine wpList_store_new 64 (.tmp 6) (.tmp 30) b6 Rcp.zero.cells Rcp.zero.cells 64 Bb rfl rsizeRcp (Rcp.cells_one _) ?hgd ?ho ?hx ?hy ?_); (case hgd | ho | hx | hy => rfl); (intro wc Bc oc))
        | fail)
      have hbc : Below wa.heap.size wa wc := oc.below (eb.mono lb) lb
      have HXc := Lib.hid Bc
      have HBc := Lib.hid (HBa.out.below hbc HBa.out.lt)
      have HNc := Lib.hid (HNa.out.below hbc)
      have HBEc := Lib.hid (HBEa.out.trans (hbc.mono HBEa.out.size))
      clear Bb eb zb lb Bc oc hbc
      have q1 := HBc.out.cell (i := 1) rfl
      have q2 := HBc.out.cell (i := 2) rfl
      go_wp2_with (first
        | ((with_reducible refine wpList_build_eq 68 ?partsk [.int .i64 c.epoch, .int .i64 c.lba] ?hg ?ho ?hf ?_); (case hg | ho => rfl); (case hf => exact builtAskEL _ _))
        | fail)
      refine (vnone_told _ c.epoch c.lba _ HNc.out).mono ?_
      rintro e wd ⟨rfl, hbd⟩
      have HXd := Lib.hid (HXc.out.below hbd HXc.out.lt)
      have HBd := Lib.hid (HBc.out.below hbd HBc.out.lt)
      have HNd := Lib.hid (HNc.out.below hbd)
      have HBEd := Lib.hid (HBEc.out.trans (hbd.mono HBEc.out.size))
      clear hbd q1 q2
      go_upto_region 8 with (first
        | ((with_reducible refine wpList_alloc_new 75 _ zeroToldZ (some 8) ?hgd ?ho ?hd ?_); (case hgd | ho | hd => rfl); (intro b8 we le Be ee ze))
        | ((with_reducible refine wpList_store_new 75 (.tmp 8) (.tmp 40) b8 toldZ toldZ 75 Be rfl sizeToldZ oneToldZ ?hgd ?ho ?hx ?hy ?_); (case hgd | ho | hx | hy => rfl); (intro wf Bf of))
        | fail)
      have hbf : Below wd.heap.size wd wf := of.below (ee.mono le) le
      have HYf := Lib.hid Bf
      have HXf := Lib.hid (HXd.out.below hbf HXd.out.lt)
      have HBf := Lib.hid (HBd.out.below hbf HBd.out.lt)
      have HNf := Lib.hid (HNd.out.below hbf)
      have HBEf := Lib.hid (HBEd.out.trans (hbf.mono HBEd.out.size))
      clear Be ee ze le Bf of hbf
      go_wp2_with fail
      refine (vnone_secrets _ _ HNf.out).mono ?_
      rintro e w' ⟨rfl, rfl⟩
      go_wp2_with fail
      refine (vnone_stat _ _ HNf.out).mono ?_
      rintro e wg ⟨rfl, hbg⟩
      have HYg := Lib.hid (HYf.out.below hbg HYf.out.lt)
      have HXg := Lib.hid (HXf.out.below hbg HXf.out.lt)
      have HBg := Lib.hid (HBf.out.below hbg HBf.out.lt)
      have HNg := Lib.hid (HNf.out.below hbg)
      have HBEg := Lib.hid (HBEf.out.trans (hbg.mono HBEf.out.size))
      clear hbg
      go_upto_region 10 with (first
        | ((with_reducible refine wpList_alloc_new 81 _ zeroStatZ (some 13) ?hgd ?ho ?hd ?_); (case hgd | ho | hd => rfl); (intro b13 wh lh Bh eh zh))
        | ((with_reducible refine wpList_store_new 81 (.tmp 13) (.tmp 51) b13 statZ statZ 81 Bh rfl sizeStatZ oneStatZ ?hgd ?ho ?hx ?hy ?_); (case hgd | ho | hx | hy => rfl); (intro wi Bi oi))
        | fail)
      have hbi : Below wg.heap.size wg wi := oi.below (eh.mono lh) lh
      have HZi := Lib.hid Bi
      have HYi := Lib.hid (HYg.out.below hbi HYg.out.lt)
      have HXi := Lib.hid (HXg.out.below hbi HXg.out.lt)
      have HBi := Lib.hid (HBg.out.below hbi HBg.out.lt)
      have HNi := Lib.hid (HNg.out.below hbi)
      have HBEi := Lib.hid (HBEg.out.trans (hbi.mono HBEg.out.size))
      clear Bh eh zh lh Bi oi hbi
      go_wp2_with (first
        | ((with_reducible refine wpList_load_met 64 (.tmp 6) b6 0 (Rcp.zero.cells) _ (some 53) (HXi.out.range) Tryz.underlying64 rfl rsizeRcp ?hg ?ho ?hds ?hx ?_); (case ho | hg | hds | hx => rfl))
        | ((with_reducible refine wpList_build_eq 64 ?partsr Rcp.zero.cells ?hg ?ho ?hf ?_); (case hg | ho => rfl); (case hf => exact builtRcp0))
        | ((with_reducible refine wpList_neq_agg 64 64 (.tmp 53) (.tmp 54) (Rcp.zero.cells).toArray (Rcp.zero.cells).toArray true (some 55) (by kernel_rfl) (eqRcpT Rcp.zero _) ?hg ?ho ?hd ?hx ?hy ?_); (case ho | hg | hd | hx | hy => rfl))
        | ((with_reducible refine wpList_load_met 75 (.tmp 8) b8 0 (toldZ) _ (some 61) (HYi.out.range) Tryz.underlying75 rfl sizeToldZ ?hg ?ho ?hds ?hx ?_); (case ho | hg | hds | hx => rfl))
        | ((with_reducible refine wpList_build_eq 75 ?parts62 toldZ ?hg ?ho ?hf ?_); (case hg | ho => rfl); (case hf => exact builtToldZ))
        | fail)
      refine (told_same0 _).mono ?_
      rintro e wj ⟨rfl, hbj⟩
      have HZj := Lib.hid (HZi.out.below hbj HZi.out.lt)
      have HBj := Lib.hid (HBi.out.below hbj HBi.out.lt)
      have HNj := Lib.hid (HNi.out.below hbj)
      have HBEj := Lib.hid (HBEi.out.trans (hbj.mono HBEi.out.size))
      clear hbj HXi HYi HZi HBi HNi HBEi
      have es0 : (((⟨#[]⟩ : ByteArray) ++ (⟨#[]⟩ : ByteArray)).toList == (⟨#[]⟩ : ByteArray).toList) = true := by decide +kernel
      have es1 : ((⟨#[]⟩ : ByteArray) ++ (⟨#[]⟩ : ByteArray)).toList.isEmpty = true := by decide +kernel
      go_wp2_with (first
        | ((with_reducible refine wpList_load_met 81 (.tmp 13) b13 0 (statZ) _ (some 81) (HZj.out.range) Tryz.underlying81 rfl sizeStatZ ?hg ?ho ?hds ?hx ?_); (case ho | hg | hds | hx => rfl))
        | ((with_reducible refine wpList_build_eq 81 ?parts82 statZ ?hg ?ho ?hf ?_); (case hg | ho => rfl); (case hf => exact builtStatZ))
        | ((with_reducible refine wpList_neq_agg 81 81 (.tmp 81) (.tmp 82) (statZ).toArray (statZ).toArray true (some 83) (by kernel_rfl) (eqStatZ _) ?hg ?ho ?hd ?hx ?hy ?_); (case ho | hg | hd | hx | hy => rfl))
        | ((with_reducible refine wpList_build_eq 23 ?partsg (GeoD.cells ⟨8, 1, 0⟩) ?hg ?ho ?hf ?_); (case hg | ho => rfl); (case hf => exact builtGeo8))
        | fail)
      refine (nil_format ⟨8, 1, 0⟩ (⟨#[48, 49, 50, 51, 52, 53, 54, 55, 56, 57, 97, 98, 99, 100, 101, 102, 48, 49, 50, 51, 52, 53, 54, 55, 56, 57, 97, 98, 99, 100, 101, 102]⟩ : ByteArray) _ ⟨by decide, by decide, by decide, by decide, by decide, by decide⟩ (by decide)).mono ?_
      rintro e wk ⟨rfl, hbk⟩
      have HBk := Lib.hid (HBj.out.below hbk HBj.out.lt)
      have HNk := Lib.hid (HNj.out.below hbk)
      have HBEk := Lib.hid (HBEj.out.trans (hbk.mono HBEj.out.size))
      clear hbk es0 es1
      go_wp2_with fail
      refine (nil_mount _ _ ?_).mono ?_
      · decide
      rintro e w' ⟨rfl, rfl⟩
      go_wp2_with (first
        | ((with_reducible refine wpList_load_met 60 (.tmp 2) b2 0 (c.cells) _ (some 100) (HBk.out.range) Tryz.underlying60 rfl sizeCall ?hg ?ho ?hds ?hx ?_); (case ho | hg | hds | hx => rfl))
        | fail)
      refine (vnone_do _ c.cells _ HNk.out).mono ?_
      rintro e wl ⟨rfl, hbl⟩
      have HBl := Lib.hid (HBk.out.below hbl HBk.out.lt)
      have HNl := Lib.hid (HNk.out.below hbl)
      have HBEl := Lib.hid (HBEk.out.trans (hbl.mono HBEk.out.size))
      clear hbl
      go_wp2_with (first
        | ((with_reducible refine wpList_build_eq 89 ?partsa (ansE 1) ?hg ?ho ?hf ?_); (case hg | ho => rfl); (case hf => exact builtAnsE 1))
        | ((with_reducible refine wpList_eq_agg 89 89 (.tmp 101) (.tmp 102) (ansE 1).toArray (ansE 1).toArray true (some 103) (by kernel_rfl) (eqAnsZ _) ?hg ?ho ?hd ?hx ?hy ?_); (case ho | hg | hd | hx | hy => rfl))
        | fail)
      refine (vnone_sealed _ _ HNl.out).mono ?_
      rintro e w' ⟨rfl, rfl⟩
      go_wp2_with fail
      refine (vnone_geo _ _ HNl.out).mono ?_
      rintro e wm ⟨rfl, hbm⟩
      have HBm := Lib.hid (HBl.out.below hbm HBl.out.lt)
      have HNm := Lib.hid (HNl.out.below hbm)
      have HBEm := Lib.hid (HBEl.out.trans (hbm.mono HBEl.out.size))
      clear hbm
      have q2 := HBm.out.cell (i := 2) rfl
      have q5 := HBm.out.cell (i := 5) rfl
      have q3 := HBm.out.cell (i := 3) rfl
      go_wp2_with (first
        | ((with_reducible refine wpList_build_eq 23 ?parts113 GeoD.zero.cells ?hg ?ho ?hf ?_); (case hg | ho => rfl); (case hf => exact builtGeo0))
        | ((with_reducible refine wpList_eq_agg 23 23 (.tmp 112) (.tmp 113) (GeoD.zero.cells).toArray (GeoD.zero.cells).toArray true (some 114) (by kernel_rfl) (eqGeoZ _) ?hg ?ho ?hd ?hx ?hy ?_); (case ho | hg | hd | hx | hy => rfl))
        | fail)
      refine (vnone_hold _ c.epoch c.name _ HNm.out).mono ?_
      rintro e w' ⟨rfl, rfl⟩
      go_wp2_with fail
      refine (vnone_retain _ c.epoch c.time _ HNm.out).mono ?_
      rintro e w' ⟨rfl, rfl⟩
      go_wp2_with fail
      refine (vnone_release _ c.name _ HNm.out).mono ?_
      rintro e w' ⟨rfl, rfl⟩
      go_wp2_with fail
      refine (alive26 _).mono ?_
      rintro e wn ⟨rfl, hbn⟩
      have HBEn := Lib.hid (HBEm.out.trans (hbn.mono HBEm.out.size))
      clear hbn
      go_wp2_with fail
      go_ret
      exact ⟨rfl, HBEn.out⟩
end Go.Proofs.YtppdboadjefieaaGreat

