/- Walk of the documents' Few of chapter 32. Rows of heads of the call's own: the cells one behind the other, append, a slice literal, at an operation. What a statement's parameters hand to its walk: what was made, and a finding, by value (chapter 32). -/
import Derived.Test.YtidekfbgjghcjaaGreatG32
import Derived.Test.YtidekfbgjghcjaaGreatG1
import Derived.Deep.DeepAppendWide
import Derived.Laws.OwnMore
import Derived.Great.BuildSlice
import Derived.Test.YtidekfbgjghcjaaGreatG15
import Derived.Test.YtidekfbgjghcjaaGreatG8
namespace Go.Proofs.YtidekfbgjghcjaaGreat
set_option linter.unusedSimpArgs false
set_option linter.unusedVariables false
open Go Go.RowKit

def CellRow (w : World) (v : Value) (cs : List ByteArray) : Prop :=
  (cs = [] ∧ ∃ (p : Option Addr) (c : Nat), v = .slice p 0 c) ∨
  ∃ g o c, v = .slice (some ⟨g, o, none⟩) cs.length c ∧ cs.length ≤ c ∧ g < w.heap.size ∧ ∀ (j : Nat) (x : ByteArray), cs[j]? = some x → w.cell? ⟨g, o + j * 5 + 4, none⟩ = some (.string x)
theorem CellRow.shape {w : World} {v : Value} {cs : List ByteArray} (h : CellRow w v cs) : ∃ (p : Option Addr) (c : Nat), v = .slice p cs.length c := by
  rcases h with ⟨rfl, p, c, rfl⟩ | ⟨g, o, c, rfl, _⟩
  · exact ⟨p, c, rfl⟩
  · exact ⟨_, c, rfl⟩
theorem CellRow.below {w w' : World} {v : Value} {cs : List ByteArray} (h : CellRow w v cs) (hb : Below w.heap.size w w') : CellRow w' v cs := by
  refine h.imp id ?_
  rintro ⟨g, o, c, h1, hc, h2, h3⟩
  exact ⟨g, o, c, h1, hc, Nat.lt_of_lt_of_le h2 hb.size, fun j x hx => by rw [hb.cell (by show g < w.heap.size; omega)]; exact h3 j x hx⟩
def FewEnd32 (hs : List Hd) (e : Ending) : Prop := ∃ q : Bool, e = .returned (.bool q) ∧ (q = true → hs.length ≤ 20 ∧ HdFew hs)
theorem FewEnd32.no (hs : List Hd) : FewEnd32 hs (.returned (.bool false)) := ⟨false, rfl, fun h => by cases h⟩
set_option maxRecDepth 100000 in
set_option maxHeartbeats 2000000 in
theorem rfew32_walk (v vh : Value) (cs : List ByteArray) (hs : List Hd) (w : World) (hc : CellRow w v cs) (hh : HdRow w vh hs) (hf : HdFits w hs) :
    Calls Tryz.prog 61 #[v, vh] w fun e w' => FewEnd32 hs e ∧ Below w.heap.size w w' := by
  obtain ⟨p, c, rfl⟩ := hc.shape
  obtain ⟨p2, c2, rfl⟩ := hh.shape
  obtain ⟨n, hn⟩ : ∃ n, n = cs.length := ⟨_, rfl⟩
  obtain ⟨m, hm⟩ : ∃ m, m = hs.length := ⟨_, rfl⟩
  rw [← hn] at hc ⊢
  rw [← hm] at hh ⊢
  have HN := Lib.hid hn
  have HM := Lib.hid hm
  have HC := Lib.hid hc
  have HH := Lib.hid hh
  have HF := Lib.hid hf
  clear hc hh hf hn hm
  go_enter Tryz.func61, Tryz.ntmps61
  go_wp2_with fail
  go_loopw [5, 6] (fun vn vi wr => ∃ k t : Nat, k ≤ 100 ∧ k ≤ n ∧ vi = .int .i64 k ∧ vn = .int .i64 t ∧ t ≤ 10000 * k ∧ Below w.heap.size w wr) (fun _ vi _ => 100 - (intOf vi).toNat)
  case atStart => exact ⟨0, 0, by omega, by omega, rfl, rfl, by omega, Below.refl _ _⟩
  case round =>
    obtain ⟨k, t, hk1, hk2, rfl, rfl, ht, hbel⟩ := hrel
    have HB0 := Lib.hid hbel
    clear hbel
    by_cases hlt : k < n ∧ k < 100
    · have h1 : (k : Int) < n := by omega
      have h2 : (k : Int) < 100 := by omega
      obtain ⟨x, hx⟩ : ∃ x, cs[k]? = some x := ⟨_, List.getElem?_eq_getElem (by rw [← HN.out]; omega)⟩
      rcases HC.out with ⟨h0, _⟩ | ⟨g, o, c', hq, hcc, hg, hat⟩
      · have := HN.out; rw [h0] at this; simp at this; omega
      rw [← HN.out] at hq
      injection hq with hq1 _ hq3
      subst hq1 hq3
      have c4 : wr.cell? ⟨g, o + k * 5 + 4, none⟩ = some (.string x) := by rw [HB0.out.cell (by show g < w.heap.size; exact hg)]; exact hat k x hx
      obtain ⟨a, ha⟩ : ∃ a : Nat, a = min x.size 10000 := ⟨_, rfl⟩
      have ha1 : a ≤ 10000 := by omega
      have e1 : min (x.size : Int) 10000 = (a : Int) := by omega
      clear hat hx ha hlt
      go_wp2_with fail
      go_roundw
      case rel => exact ⟨k + 1, t + a, by omega, by omega, by go_num, by go_num, by omega, HB0.out⟩
      case measure => simp [intOf]; omega
    · have h1 : ¬ ((k : Int) < n ∧ (k : Int) < 100) := by omega
      by_cases h2 : k < n
      · have h3 : (k : Int) < n := by omega
        have h4 : ¬ (k : Int) < 100 := by omega
        clear h1 hlt h2
        go_wp2_with fail
        go_loopw [7] (fun vi wr => ∃ k : Nat, k ≤ 100 ∧ k ≤ m ∧ vi = .int .i64 k ∧ (∀ j, j < k → ∀ h, hs[j]? = some h → FewM h.m) ∧ Below w.heap.size w wr) (fun vi _ => 100 - (intOf vi).toNat)
        case atStart => exact ⟨0, by omega, by omega, rfl, fun j hj => by omega, HB0.out⟩
        case round =>
          obtain ⟨k2, hk1, hk2, rfl, hno, hbel⟩ := hrel
          have HNO := Lib.hid hno
          have HB := Lib.hid hbel
          clear hno hbel
          by_cases hlt : k2 < m ∧ k2 < 100
          · have h1 : (k2 : Int) < m := by omega
            have h2 : (k2 : Int) < 100 := by omega
            obtain ⟨h, hjh⟩ : ∃ h, hs[k2]? = some h := ⟨_, List.getElem?_eq_getElem (by rw [← HM.out]; omega)⟩
            rcases HH.out with ⟨h0, _⟩ | ⟨g, o, c', hq, hcc, hg, hat⟩
            · have := HM.out; rw [h0] at this; simp at this; omega
            rw [← HM.out] at hq
            injection hq with hq1 _ hq3
            subst hq1 hq3
            have HR0 := Lib.hid (show wr.rangeAt g (o + k2 * 41) (h.m.cells h.u h.l) from fun j u hu => by rw [HB.out.cell (by show g < w.heap.size; exact hg)]; exact hat k2 h hjh j u hu)
            have HJ := Lib.hid hjh
            have HFT := Lib.hid (HF.out k2 h hjh)
            clear hat hjh hlt
            go_wp2_with (first
              | ((with_reducible refine wpList_load_met 39 (.tmp 39) g (o + k2 * 41) (h.m.cells h.u h.l) _ (some 40) (HR0.out) Tryz.underlying39 rfl sizeMsg ?hg ?ho ?hds ?hx ?_); (case ho | hg | hds | hx => rfl))
              | fail)
            refine (few27_walk h.m h.u h.l _ (HFT.out.onto HB.out)).mono ?_
            rintro e w1 ⟨hq, hb1⟩
            obtain ⟨q, rfl, hq⟩ := hq
            have HQ := Lib.hid hq
            have HB1 := Lib.hid (HB.out.trans (hb1.mono HB.out.size))
            clear hb1 hq
            cases q with
            | false =>
              go_wp2_with fail
              go_ret
              exact ⟨FewEnd32.no _, HB1.out⟩
            | true =>
              have HQ2 := Lib.hid (HQ.out (by trivial))
              go_wp2_with fail
              go_roundw
              case rel =>
                refine ⟨k2 + 1, by omega, by omega, by go_num, fun j hj h' hh' => ?_, HB1.out⟩
                by_cases hjk : j < k2
                · exact HNO.out j hjk h' hh'
                · obtain rfl : j = k2 := by omega
                  rw [HJ.out] at hh'
                  cases hh'
                  exact HQ2.out
              case measure => simp [intOf]; omega
          · by_cases h2 : k2 < m
            · have h3 : (k2 : Int) < m := by omega
              have h4 : ¬ (k2 : Int) < 100 := by omega
              by_cases g1 : n ≤ 60
              · have g1' : (n : Int) ≤ 60 := by omega
                by_cases g2 : m ≤ 20
                · have g2' : (m : Int) ≤ 20 := by omega
                  by_cases g3 : t ≤ 20000
                  · have g3' : (t : Int) ≤ 20000 := by omega
                    clear g1 g3
                    go_wp2_with fail
                    go_ret
                    exact absurd g2 (by omega)
                  · have g3' : ¬ (t : Int) ≤ 20000 := by omega
                    go_wp2_with fail
                    go_ret
                    exact ⟨FewEnd32.no _, HB.out⟩
                · have g2' : ¬ (m : Int) ≤ 20 := by omega
                  go_wp2_with fail
                  go_ret
                  exact ⟨FewEnd32.no _, HB.out⟩
              · have g1' : ¬ (n : Int) ≤ 60 := by omega
                go_wp2_with fail
                go_ret
                exact ⟨FewEnd32.no _, HB.out⟩
            · obtain rfl : k2 = m := by omega
              have h3 : ¬ (k2 : Int) < k2 := by omega
              by_cases g1 : n ≤ 60
              · have g1' : (n : Int) ≤ 60 := by omega
                by_cases g2 : k2 ≤ 20
                · have g2' : (k2 : Int) ≤ 20 := by omega
                  by_cases g3 : t ≤ 20000
                  · have g3' : (t : Int) ≤ 20000 := by omega
                    clear g1 g3
                    go_wp2_with fail
                    go_ret
                    exact ⟨⟨true, rfl, fun _ => ⟨by rw [← HM.out]; exact g2, fun j h hjh => HNO.out j (by have := (List.getElem?_eq_some_iff.1 hjh).1; rw [HM.out]; exact this) h hjh⟩⟩, HB.out⟩
                  · have g3' : ¬ (t : Int) ≤ 20000 := by omega
                    go_wp2_with fail
                    go_ret
                    exact ⟨FewEnd32.no _, HB.out⟩
                · have g2' : ¬ (k2 : Int) ≤ 20 := by omega
                  go_wp2_with fail
                  go_ret
                  exact ⟨FewEnd32.no _, HB.out⟩
              · have g1' : ¬ (n : Int) ≤ 60 := by omega
                go_wp2_with fail
                go_ret
                exact ⟨FewEnd32.no _, HB.out⟩
      · have h3 : ¬ (k : Int) < n := by omega
        clear h1 hlt h2
        go_wp2_with fail
        go_loopw [7] (fun vi wr => ∃ k : Nat, k ≤ 100 ∧ k ≤ m ∧ vi = .int .i64 k ∧ (∀ j, j < k → ∀ h, hs[j]? = some h → FewM h.m) ∧ Below w.heap.size w wr) (fun vi _ => 100 - (intOf vi).toNat)
        case atStart => exact ⟨0, by omega, by omega, rfl, fun j hj => by omega, HB0.out⟩
        case round =>
          obtain ⟨k2, hk1, hk2, rfl, hno, hbel⟩ := hrel
          have HNO := Lib.hid hno
          have HB := Lib.hid hbel
          clear hno hbel
          by_cases hlt : k2 < m ∧ k2 < 100
          · have h1 : (k2 : Int) < m := by omega
            have h2 : (k2 : Int) < 100 := by omega
            obtain ⟨h, hjh⟩ : ∃ h, hs[k2]? = some h := ⟨_, List.getElem?_eq_getElem (by rw [← HM.out]; omega)⟩
            rcases HH.out with ⟨h0, _⟩ | ⟨g, o, c', hq, hcc, hg, hat⟩
            · have := HM.out; rw [h0] at this; simp at this; omega
            rw [← HM.out] at hq
            injection hq with hq1 _ hq3
            subst hq1 hq3
            have HR0 := Lib.hid (show wr.rangeAt g (o + k2 * 41) (h.m.cells h.u h.l) from fun j u hu => by rw [HB.out.cell (by show g < w.heap.size; exact hg)]; exact hat k2 h hjh j u hu)
            have HJ := Lib.hid hjh
            have HFT := Lib.hid (HF.out k2 h hjh)
            clear hat hjh hlt
            go_wp2_with (first
              | ((with_reducible refine wpList_load_met 39 (.tmp 39) g (o + k2 * 41) (h.m.cells h.u h.l) _ (some 40) (HR0.out) Tryz.underlying39 rfl sizeMsg ?hg ?ho ?hds ?hx ?_); (case ho | hg | hds | hx => rfl))
              | fail)
            refine (few27_walk h.m h.u h.l _ (HFT.out.onto HB.out)).mono ?_
            rintro e w1 ⟨hq, hb1⟩
            obtain ⟨q, rfl, hq⟩ := hq
            have HQ := Lib.hid hq
            have HB1 := Lib.hid (HB.out.trans (hb1.mono HB.out.size))
            clear hb1 hq
            cases q with
            | false =>
              go_wp2_with fail
              go_ret
              exact ⟨FewEnd32.no _, HB1.out⟩
            | true =>
              have HQ2 := Lib.hid (HQ.out (by trivial))
              go_wp2_with fail
              go_roundw
              case rel =>
                refine ⟨k2 + 1, by omega, by omega, by go_num, fun j hj h' hh' => ?_, HB1.out⟩
                by_cases hjk : j < k2
                · exact HNO.out j hjk h' hh'
                · obtain rfl : j = k2 := by omega
                  rw [HJ.out] at hh'
                  cases hh'
                  exact HQ2.out
              case measure => simp [intOf]; omega
          · by_cases h2 : k2 < m
            · have h3 : (k2 : Int) < m := by omega
              have h4 : ¬ (k2 : Int) < 100 := by omega
              by_cases g1 : n ≤ 60
              · have g1' : (n : Int) ≤ 60 := by omega
                by_cases g2 : m ≤ 20
                · have g2' : (m : Int) ≤ 20 := by omega
                  by_cases g3 : t ≤ 20000
                  · have g3' : (t : Int) ≤ 20000 := by omega
                    clear g1 g3
                    go_wp2_with fail
                    go_ret
                    exact absurd g2 (by omega)
                  · have g3' : ¬ (t : Int) ≤ 20000 := by omega
                    go_wp2_with fail
                    go_ret
                    exact ⟨FewEnd32.no _, HB.out⟩
                · have g2' : ¬ (m : Int) ≤ 20 := by omega
                  go_wp2_with fail
                  go_ret
                  exact ⟨FewEnd32.no _, HB.out⟩
              · have g1' : ¬ (n : Int) ≤ 60 := by omega
                go_wp2_with fail
                go_ret
                exact ⟨FewEnd32.no _, HB.out⟩
            · obtain rfl : k2 = m := by omega
              have h3 : ¬ (k2 : Int) < k2 := by omega
              by_cases g1 : n ≤ 60
              · have g1' : (n : Int) ≤ 60 := by omega
                by_cases g2 : k2 ≤ 20
                · have g2' : (k2 : Int) ≤ 20 := by omega
                  by_cases g3 : t ≤ 20000
                  · have g3' : (t : Int) ≤ 20000 := by omega
                    clear g1 g3
                    go_wp2_with fail
                    go_ret
                    exact ⟨⟨true, rfl, fun _ => ⟨by rw [← HM.out]; exact g2, fun j h hjh => HNO.out j (by have := (List.getElem?_eq_some_iff.1 hjh).1; rw [HM.out]; exact this) h hjh⟩⟩, HB.out⟩
                  · have g3' : ¬ (t : Int) ≤ 20000 := by omega
                    go_wp2_with fail
                    go_ret
                    exact ⟨FewEnd32.no _, HB.out⟩
                · have g2' : ¬ (k2 : Int) ≤ 20 := by omega
                  go_wp2_with fail
                  go_ret
                  exact ⟨FewEnd32.no _, HB.out⟩
              · have g1' : ¬ (n : Int) ≤ 60 := by omega
                go_wp2_with fail
                go_ret
                exact ⟨FewEnd32.no _, HB.out⟩
end Go.Proofs.YtidekfbgjghcjaaGreat

namespace Go.Proofs.YtidekfbgjghcjaaGreat
set_option linter.unusedSimpArgs false
set_option linter.unusedVariables false
open Go Go.RowKit
set_option maxRecDepth 100000

def Hd.cells (h : Hd) : List Value := h.m.cells h.u h.l
theorem Hd.cells_len (h : Hd) : h.cells.length = 41 := rfl
def flatH (hs : List Hd) : List Value := hs.flatMap Hd.cells
theorem flatH_cons (h : Hd) (hs : List Hd) : flatH (h :: hs) = h.cells ++ flatH hs := rfl
theorem flatH_length (hs : List Hd) : (flatH hs).length = hs.length * 41 := by
  induction hs with
  | nil => rfl
  | cons h r ih => rw [flatH_cons, List.length_append, ih, Hd.cells_len, List.length_cons]; omega
theorem flatH_at (hs : List Hd) : ∀ (j : Nat) (x : Hd), hs[j]? = some x → ∀ (i : Nat) (u : Value), x.cells[i]? = some u → (flatH hs)[j * 41 + i]? = some u := by
  induction hs with
  | nil => intro j x hx; simp at hx
  | cons h r ih =>
    intro j x hx i u hu
    have hi : i < 41 := by have := (List.getElem?_eq_some_iff.1 hu).1; rw [Hd.cells_len] at this; exact this
    cases j with
    | zero =>
      simp at hx; subst hx
      rw [flatH_cons, List.getElem?_append_left (by rw [Hd.cells_len]; omega), Nat.zero_mul, Nat.zero_add]
      exact hu
    | succ j =>
      rw [flatH_cons, List.getElem?_append_right (by rw [Hd.cells_len]; omega), Hd.cells_len]
      have := ih j x (by simpa using hx) i u hu
      rw [show (j + 1) * 41 + i - 41 = j * 41 + i by omega]
      exact this
theorem flatH_get (hs : List Hd) : ∀ (t : Nat) (u : Value), (flatH hs)[t]? = some u → ∃ k x i, hs[k]? = some x ∧ x.cells[i]? = some u ∧ t = k * 41 + i := by
  induction hs with
  | nil => intro t u h; simp [flatH] at h
  | cons h r ih =>
    intro t u hu
    rw [flatH_cons] at hu
    by_cases ht : t < 41
    · rw [List.getElem?_append_left (by rw [Hd.cells_len]; exact ht)] at hu
      exact ⟨0, h, t, rfl, hu, by omega⟩
    · rw [List.getElem?_append_right (by rw [Hd.cells_len]; omega), Hd.cells_len] at hu
      obtain ⟨k, x, i, h1, h2, h3⟩ := ih _ _ hu
      exact ⟨k + 1, x, i, by simpa using h1, h2, by omega⟩
theorem HdRow.own {w : World} {base n : Nat} {v : Value} {xs : List Hd} (h : w.ownsRow base 39 41 v n (flatH xs)) (hn : n = xs.length) : HdRow w v xs := by
  subst hn
  by_cases h0 : xs = []
  · subst h0
    exact .inl ⟨rfl, own_nil h⟩
  · obtain ⟨g, cap, z, rfl, hc, hb, hk⟩ := own_split h (List.length_pos_iff.2 h0)
    refine .inr ⟨g, 0, cap, rfl, hc, hk.lt, fun j x hx i u hu => ?_⟩
    refine hk.cell ?_
    have h1 := flatH_at xs j x hx i u hu
    rw [Nat.zero_add, List.getElem?_append_left (List.getElem?_eq_some_iff.1 h1).1]
    exact h1
theorem infoMsgX : (Tryz.prog.info? 39).map (fun i => (i.zero, i.size, i.bytes)) = some (some (.agg (mzero).toArray), 41, 464) := by kernel_rfl
theorem flatH_one {w : World} {hs : List Hd} (h : HdFits w hs) : ∀ u ∈ flatH hs, u.oneCell' = true := by
  intro u hu
  obtain ⟨t, ht⟩ := List.getElem?_of_mem hu
  obtain ⟨k, x, i, h1, h2, _⟩ := flatH_get hs t u ht
  exact mcells_one (h k x h1).up.shape (h k x h1).left.shape u (List.mem_of_getElem? h2)
section
variable {P : Program} {o : Oper} {a : Act} {w : World} {K : Act → World → Prop} {Q : Exit → Act → World → Prop}
theorem wp_slice_new (t e : TypeId) (len : Nat) (parts : Array (Nat × Operand)) (cells : List Value) (z : Value) (sz byt : Nat)
    (hu : P.underlying t = some (.slice e)) (hi : (P.info? e).map (fun i => (i.zero, i.size, i.bytes)) = some (some z, sz, byt)) (hsm : len * sz ≤ 16777216) (hpos : 0 < len * sz)
    (ho : o.op = .buildSlice t len parts)
    (hf : Instr.fill (fun i => some (i * sz, sz)) ((Array.range (len * sz)).map (z.cells[· % z.cells.size]!)) (parts.map fun (i, x) => (i, a.eval x)).toList = some cells.toArray)
    (h : ∀ g w', w.heap.size ≤ g → Blk w' g cells e → Below g w w' → g < w'.heap.size → K (a.put o.dst (.slice (some ⟨g, 0, none⟩) len len)) w') : o.wp P a w K Q := by
  cases hie : P.info? e with
  | none => simp [hie] at hi
  | some ie =>
    simp only [hie, Option.map_some, Option.some.injEq, Prod.mk.injEq] at hi
    obtain ⟨h1, h2, _⟩ := hi
    subst h2
    exact wp_buildSlice t e len parts ho cells.toArray ie z hu hie h1 (by omega) (by omega) hf (h _ _ (Nat.le_refl _) (Blk.new w cells e) ((Below.refl _ _).alloc (Nat.le_refl _) _) (by simp))
end
section
variable {o : Oper} {a : Act} {w : World} {K : Act → World → Prop} {Q : Exit → Act → World → Prop}
theorem wp_append_heads (s x : Operand) (ho : o.op = .call { callee := .builtin .append, args := #[s, x], argTypes := #[54, 54] })
    (base : Nat) (v : Value) (n : Nat) (xs : List Value) (hs : a.eval s = v) (hown : w.ownsRow base 39 41 v n xs)
    (l : List Hd) (vh : Value) (hx : a.eval x = vh) (hrow : HdRow w vh l) (hfit : HdFits w l) (hnil : vh = .slice none 0 0 ∨ ∃ ad m c, vh = .slice (some ad) m c) (hm : n + l.length ≤ 1048600) (hbase : base ≤ w.heap.size)
    (h : ∀ v' w', w'.ownsRow base 39 41 v' (n + l.length) (xs ++ flatH l) → Below base w w' → (∀ b c t, Blk w b c t → some b ≠ v.ownBlock → Blk w' b c t) → K (a.put o.dst v') w') : o.wp Tryz.prog a w K Q := by
  obtain ⟨i0, hi, hz0, hz1, hz2⟩ := info_parts infoMsgX
  rcases hnil with rfl | ⟨ad, m, c, rfl⟩
  · have hl : l = [] := by
      rcases hrow with ⟨h, _⟩ | ⟨g, o, c, h, _⟩
      · exact h
      · cases h
    subst hl
    have hrun := run_append_owned_none (P := Tryz.prog) (w := w) base 54 o.type 39 i0 41 Tryz.underlying54 hi v n xs hown
    unfold Oper.wp
    simp [execOp, ho, resolve, invoke, builtin, hs, hx, hrun, Result.andThen]
    exact h v w (by simpa [flatH] using hown) (Below.refl _ _) (fun b c t hb _ => hb)
  · have hml : m = l.length := by
      obtain ⟨p, c', hp⟩ := hrow.shape
      injection hp with _ hp _
    subst hml
    refine wp_append_own_wide w s x 54 ho base 39 i0 (.agg (mzero).toArray) 41 464 Tryz.underlying54 hi hz0 hz1 hz2 rfl (by decide) v n xs hs hown ad l.length c (flatH l) hx (flatH_length l) ?_ (flatH_one hfit) (by unfold maxLen; omega) (by omega) hbase ?_
    · intro j u hu
      obtain ⟨k, y, i, h1, h2, h3⟩ := flatH_get l j u hu
      rcases hrow with ⟨h0, _⟩ | ⟨g, o, c', hq, _, _, hat⟩
      · subst h0; simp at h1
      injection hq with hq1 _ _
      injection hq1 with hq1
      subst hq1
      have := hat k y h1 i u h2
      rw [Addr.add_mid, h3, ← Nat.add_assoc]
      exact this
    · intro v' w' h1 h2 _
      exact h v' w' h1 (below_own (Below.refl _ _) hown h2 (Nat.le_refl _) hbase) (fun b c t hb hne => hb.grown h2 hne)
end
end Go.Proofs.YtidekfbgjghcjaaGreat

namespace Go.Proofs.YtidekfbgjghcjaaGreat
set_option linter.unusedSimpArgs false
set_option linter.unusedVariables false
open Go Go.RowKit Go.ChangeShapes Go.WideShapes Go.Deep

structure HonD where
  sv : Value
  sl : List Sld
  cv : Value
  cl : List ByteArray
  hv : Value
  hl : List Hd
def HonD.cells (h : HonD) : List Value := [h.sv, h.cv, h.hv]
def HonD.v (h : HonD) : Value := .agg #[h.sv, h.cv, h.hv]
structure HonFits (w : World) (h : HonD) : Prop where
  slds : SldsIn w h.sv h.sl
  cells : CellRow w h.cv h.cl
  heads : HdRow w h.hv h.hl
  fits : HdFits w h.hl
  nl : h.hv = .slice none 0 0 ∨ ∃ ad m c', h.hv = .slice (some ad) m c'
structure FndFits (f : Fnd) : Prop where
  kind : Fits f.kind
  epoch : Fits f.epoch
  a : Long f.a.size
  b : Long f.b.size
  msg : Long f.msg.size
  tag : Long f.tag.size
section
variable {H : Type} {enc : TypeId × Value → H} {w : World} {base : Nat} {spare : Nat → Bool} {held : Bool}
set_option maxRecDepth 100000 in
theorem sldrow_trod {fuel : Nat} {cs : List Value} {x : DataW H × List MemPlace} (h : DataW.trod enc Tryz.prog w base spare held fuel 52 cs = some x) : ∃ v l, cs = [v] ∧ SldsIn w v l := by
  have hh := h
  rcases open_slice Tryz.underlying52 h with ⟨hcs, _⟩ | ⟨a, l0, c0, m, n, D, Pl, hcs, _⟩
  · exact ⟨_, [], hcs, ⟨.inl ⟨rfl, _, _, rfl⟩, fun j x h => by simp at h⟩⟩
  · obtain ⟨l, hl⟩ := slds_in (v := .slice (some a) l0 c0) ⟨_, _, _, rfl⟩ (⟨fuel, by rw [hcs] at hh; simpa [Value.cells] using hh⟩ : DataW.Trod enc Tryz.prog w base spare held 52 (.slice (some a) l0 c0) x.1 x.2)
    exact ⟨_, l, hcs, hl⟩
set_option maxRecDepth 100000 in
theorem acell_trod {fuel : Nat} {cs : List Value} {x : DataW H × List MemPlace} (h : DataW.trod enc Tryz.prog w base spare held fuel 130 cs = some x) : ∃ (p : Int × Int × Int × Bool) (s : ByteArray), cs = [.int .i64 p.1, .int .i64 p.2.1, .int .i64 p.2.2.1, .bool p.2.2.2, .string s] := by
  obtain ⟨xs, n, _, _, hl, hlen, hf⟩ := DataW.trod_struct Tryz.underlying130 h
  have hc : Tryz.prog.cellsOf 130 = 5 := by kernel_rfl
  have kk0 : Tryz.prog.cellsOf 4 = 1 := by kernel_rfl
  have kk1 : Tryz.prog.cellsOf 3 = 1 := by kernel_rfl
  have kk2 : Tryz.prog.cellsOf 9 = 1 := by kernel_rfl
  rw [hc] at hl
  match xs, hlen with
  | [y0, y1, y2, y3, y4], _ =>
    have g0 : DataW.trod enc Tryz.prog w base spare held n 3 (List.take (Tryz.prog.cellsOf 3) (List.drop 0 cs)) = some y0 := hf 0 _ rfl
    rw [kk1] at g0
    have g1 : DataW.trod enc Tryz.prog w base spare held n 3 (List.take (Tryz.prog.cellsOf 3) (List.drop 1 cs)) = some y1 := hf 1 _ rfl
    rw [kk1] at g1
    have g2 : DataW.trod enc Tryz.prog w base spare held n 3 (List.take (Tryz.prog.cellsOf 3) (List.drop 2 cs)) = some y2 := hf 2 _ rfl
    rw [kk1] at g2
    have g3 : DataW.trod enc Tryz.prog w base spare held n 4 (List.take (Tryz.prog.cellsOf 4) (List.drop 3 cs)) = some y3 := hf 3 _ rfl
    rw [kk0] at g3
    have g4 : DataW.trod enc Tryz.prog w base spare held n 9 (List.take (Tryz.prog.cellsOf 9) (List.drop 4 cs)) = some y4 := hf 4 _ rfl
    rw [kk2] at g4
    obtain ⟨n0, e0, _, f0⟩ := DataW.trod_int Tryz.underlying3 g0
    obtain ⟨n1, e1, _, f1⟩ := DataW.trod_int Tryz.underlying3 g1
    obtain ⟨n2, e2, _, f2⟩ := DataW.trod_int Tryz.underlying3 g2
    obtain ⟨n3, e3, _⟩ := DataW.trod_bool Tryz.underlying4 g3
    obtain ⟨n4, e4, _, f4⟩ := DataW.trod_string Tryz.underlying9 g4
    have ee : cs = (cs.drop 0).take 1 ++ ((cs.drop 1).take 1 ++ ((cs.drop 2).take 1 ++ ((cs.drop 3).take 1 ++ ((cs.drop 4).take 1)))) := by
      match cs, hl with
      | [_, _, _, _, _], _ => rfl
    rw [ee, e0, e1, e2, e3, e4]
    exact ⟨(n0, n1, n2, n3), n4, rfl⟩
set_option maxRecDepth 100000 in
theorem cellrow_trod {fuel : Nat} {cs : List Value} {x : DataW H × List MemPlace} (h : DataW.trod enc Tryz.prog w base spare held fuel 53 cs = some x) : ∃ v l, cs = [v] ∧ CellRow w v l := by
  rcases open_slice Tryz.underlying53 h with ⟨hcs, _⟩ | ⟨a, l0, c0, m, n, D, Pl, hcs, _, hl, hm, hmm, _, hi⟩
  · exact ⟨_, [], hcs, .inl ⟨rfl, _, _, rfl⟩⟩
  · have hc : Tryz.prog.cellsOf 130 = 5 := by kernel_rfl
    rw [hc] at hi
    by_cases h0 : l0 = 0
    · subst h0
      exact ⟨_, [], hcs, .inl ⟨rfl, _, _, rfl⟩⟩
    · have hlm : l0 ≤ m := by rw [hmm]; split <;> omega
      have each : ∀ i, i < m → ∃ s : (Int × Int × Int × Bool) × ByteArray, (∀ j u, ([.int .i64 s.1.1, .int .i64 s.1.2.1, .int .i64 s.1.2.2.1, .bool s.1.2.2.2, .string s.2] : List Value)[j]? = some u → w.cell? (a.add (i * 5 + j)) = some u) ∧ True := by
        intro i him
        obtain ⟨cs', h1, h2⟩ := hi i him
        obtain ⟨p, s, hs⟩ := acell_trod h2
        have hfit : True := trivial
        refine ⟨(p, s), fun j u hu => ?_, hfit⟩
        obtain ⟨_, hlen, hat⟩ := World.cells?_some h1
        have hj := (List.getElem?_eq_some_iff.1 hu).1
        have := hat j (by rw [hs] at hlen; exact Nat.lt_of_lt_of_eq hj hlen)
        rw [Deep.add_add] at this
        rw [this, hs]; exact hu
      haveI : Inhabited ((Int × Int × Int × Bool) × ByteArray) := ⟨((0, 0, 0, false), ⟨#[]⟩)⟩
      obtain ⟨f, hfn⟩ := choose_lt each
      have h1 := (hfn 0 (by omega)).1 0 _ rfl
      rw [Nat.zero_mul] at h1
      have hsp := World.cell?_spot h1
      obtain ⟨g, o, s⟩ := a
      simp [Addr.add] at hsp
      subst hsp
      refine ⟨_, (List.range l0).map (fun i => (f i).2), hcs, .inr ⟨g, o, c0, by simp, by simpa using hl, lt_of_cell (by simpa [Addr.add] using h1), fun j x hx => ?_⟩⟩
      obtain ⟨hj, rfl⟩ := List.getElem?_eq_some_iff.1 hx
      simp at hj
      have := (hfn j (by omega)).1 4 _ rfl
      rw [Addr.add_mid] at this
      rw [Nat.add_assoc]
      simpa using this
set_option maxRecDepth 100000 in
theorem headrow_trod {fuel : Nat} {cs : List Value} {x : DataW H × List MemPlace} (h : DataW.trod enc Tryz.prog w base spare held fuel 54 cs = some x) : ∃ v l, cs = [v] ∧ ((HdRow w v l ∧ HdFits w l) ∧ (v = .slice none 0 0 ∨ ∃ ad m c', v = .slice (some ad) m c')) := by
  rcases open_slice Tryz.underlying54 h with ⟨hcs, _⟩ | ⟨a, l0, c0, m, n, D, Pl, hcs, _, hl, hm, hmm, _, hi⟩
  · exact ⟨_, [], hcs, ⟨⟨.inl ⟨rfl, _, _, rfl⟩, fun j x h => by simp at h⟩, .inl rfl⟩⟩
  · have hc : Tryz.prog.cellsOf 39 = 41 := by kernel_rfl
    rw [hc] at hi
    by_cases h0 : l0 = 0
    · subst h0
      exact ⟨_, [], hcs, ⟨⟨.inl ⟨rfl, _, _, rfl⟩, fun j x h => by simp at h⟩, .inr ⟨_, _, _, rfl⟩⟩⟩
    · have hlm : l0 ≤ m := by rw [hmm]; split <;> omega
      have each : ∀ i, i < m → ∃ s : Hd, (∀ j u, (s.m.cells s.u s.l)[j]? = some u → w.cell? (a.add (i * 41 + j)) = some u) ∧ MsgFits w s.m s.u s.l := by
        intro i him
        obtain ⟨cs', h1, h2⟩ := hi i him
        obtain ⟨m', u', l', hs, hfit⟩ := msg_trod h2
        refine ⟨⟨m', u', l'⟩, fun j u hu => ?_, hfit⟩
        obtain ⟨_, hlen, hat⟩ := World.cells?_some h1
        have hj := (List.getElem?_eq_some_iff.1 hu).1
        have := hat j (by rw [hs] at hlen; exact Nat.lt_of_lt_of_eq hj hlen)
        rw [Deep.add_add] at this
        rw [this, hs]; exact hu
      haveI : Inhabited (Hd) := ⟨⟨MsgD.zero, .slice none 0 0, .slice none 0 0⟩⟩
      obtain ⟨f, hfn⟩ := choose_lt each
      have h1 := (hfn 0 (by omega)).1 0 _ rfl
      rw [Nat.zero_mul] at h1
      have hsp := World.cell?_spot h1
      obtain ⟨g, o, s⟩ := a
      simp [Addr.add] at hsp
      subst hsp
      refine ⟨_, (List.range l0).map f, hcs, ⟨.inr ⟨g, o, c0, by simp, by simpa using hl, lt_of_cell (by simpa [Addr.add] using h1), fun j x hx => ?_⟩, fun j x hx => ?_⟩, .inr ⟨_, _, _, rfl⟩⟩
      · obtain ⟨hj, rfl⟩ := List.getElem?_eq_some_iff.1 hx
        simp at hj
        intro i u hu
        have := (hfn j (by omega)).1 i u (by simpa using hu)
        rw [Addr.add_mid] at this
        rw [Nat.add_assoc]
        exact this
      · obtain ⟨hj, rfl⟩ := List.getElem?_eq_some_iff.1 hx
        simp at hj
        simpa using (hfn j (by omega)).2
set_option maxRecDepth 100000 in
theorem hon_trod {fuel : Nat} {cs : List Value} {x : DataW H × List MemPlace} (h : DataW.trod enc Tryz.prog w base spare held fuel 56 cs = some x) : ∃ h : HonD, cs = h.cells ∧ HonFits w h := by
  obtain ⟨xs, n, _, _, hl, hlen, hf⟩ := DataW.trod_struct Tryz.underlying56 h
  have hc : Tryz.prog.cellsOf 56 = 3 := by kernel_rfl
  have kk0 : Tryz.prog.cellsOf 53 = 1 := by kernel_rfl
  have kk1 : Tryz.prog.cellsOf 54 = 1 := by kernel_rfl
  have kk2 : Tryz.prog.cellsOf 52 = 1 := by kernel_rfl
  rw [hc] at hl
  match xs, hlen with
  | [y0, y1, y2], _ =>
    have g0 : DataW.trod enc Tryz.prog w base spare held n 52 (List.take (Tryz.prog.cellsOf 52) (List.drop 0 cs)) = some y0 := hf 0 _ rfl
    rw [kk2] at g0
    have g1 : DataW.trod enc Tryz.prog w base spare held n 53 (List.take (Tryz.prog.cellsOf 53) (List.drop 1 cs)) = some y1 := hf 1 _ rfl
    rw [kk0] at g1
    have g2 : DataW.trod enc Tryz.prog w base spare held n 54 (List.take (Tryz.prog.cellsOf 54) (List.drop 2 cs)) = some y2 := hf 2 _ rfl
    rw [kk1] at g2
    obtain ⟨v0, n0, e0, f0⟩ := sldrow_trod g0
    obtain ⟨v1, n1, e1, f1⟩ := cellrow_trod g1
    obtain ⟨v2, n2, e2, f2⟩ := headrow_trod g2
    have ee : cs = (cs.drop 0).take 1 ++ ((cs.drop 1).take 1 ++ ((cs.drop 2).take 1)) := by
      match cs, hl with
      | [_, _, _], _ => rfl
    rw [ee, e0, e1, e2]
    exact ⟨⟨v0, n0, v1, n1, v2, n2⟩, rfl, ⟨f0, f1, f2.1.1, f2.1.2, f2.2⟩⟩
set_option maxRecDepth 100000 in
theorem fnd_trod {fuel : Nat} {cs : List Value} {x : DataW H × List MemPlace} (h : DataW.trod enc Tryz.prog w base spare held fuel 58 cs = some x) : ∃ f : Fnd, cs = f.cells ∧ FndFits f := by
  obtain ⟨xs, n, _, _, hl, hlen, hf⟩ := DataW.trod_struct Tryz.underlying58 h
  have hc : Tryz.prog.cellsOf 58 = 6 := by kernel_rfl
  have kk0 : Tryz.prog.cellsOf 3 = 1 := by kernel_rfl
  have kk1 : Tryz.prog.cellsOf 9 = 1 := by kernel_rfl
  rw [hc] at hl
  match xs, hlen with
  | [y0, y1, y2, y3, y4, y5], _ =>
    have g0 : DataW.trod enc Tryz.prog w base spare held n 3 (List.take (Tryz.prog.cellsOf 3) (List.drop 0 cs)) = some y0 := hf 0 _ rfl
    rw [kk0] at g0
    have g1 : DataW.trod enc Tryz.prog w base spare held n 9 (List.take (Tryz.prog.cellsOf 9) (List.drop 1 cs)) = some y1 := hf 1 _ rfl
    rw [kk1] at g1
    have g2 : DataW.trod enc Tryz.prog w base spare held n 9 (List.take (Tryz.prog.cellsOf 9) (List.drop 2 cs)) = some y2 := hf 2 _ rfl
    rw [kk1] at g2
    have g3 : DataW.trod enc Tryz.prog w base spare held n 3 (List.take (Tryz.prog.cellsOf 3) (List.drop 3 cs)) = some y3 := hf 3 _ rfl
    rw [kk0] at g3
    have g4 : DataW.trod enc Tryz.prog w base spare held n 9 (List.take (Tryz.prog.cellsOf 9) (List.drop 4 cs)) = some y4 := hf 4 _ rfl
    rw [kk1] at g4
    have g5 : DataW.trod enc Tryz.prog w base spare held n 9 (List.take (Tryz.prog.cellsOf 9) (List.drop 5 cs)) = some y5 := hf 5 _ rfl
    rw [kk1] at g5
    obtain ⟨n0, e0, _, f0⟩ := DataW.trod_int Tryz.underlying3 g0
    obtain ⟨n1, e1, _, f1⟩ := DataW.trod_string Tryz.underlying9 g1
    obtain ⟨n2, e2, _, f2⟩ := DataW.trod_string Tryz.underlying9 g2
    obtain ⟨n3, e3, _, f3⟩ := DataW.trod_int Tryz.underlying3 g3
    obtain ⟨n4, e4, _, f4⟩ := DataW.trod_string Tryz.underlying9 g4
    obtain ⟨n5, e5, _, f5⟩ := DataW.trod_string Tryz.underlying9 g5
    have ee : cs = (cs.drop 0).take 1 ++ ((cs.drop 1).take 1 ++ ((cs.drop 2).take 1 ++ ((cs.drop 3).take 1 ++ ((cs.drop 4).take 1 ++ ((cs.drop 5).take 1))))) := by
      match cs, hl with
      | [_, _, _, _, _, _], _ => rfl
    rw [ee, e0, e1, e2, e3, e4, e5]
    have l1 : Long n1.size := ⟨by have : maxLen = 9223372036854775807 := rfl; omega⟩
    have l2 : Long n2.size := ⟨by have : maxLen = 9223372036854775807 := rfl; omega⟩
    have l4 : Long n4.size := ⟨by have : maxLen = 9223372036854775807 := rfl; omega⟩
    have l5 : Long n5.size := ⟨by have : maxLen = 9223372036854775807 := rfl; omega⟩
    exact ⟨⟨n0, n1, n2, n3, n4, n5⟩, rfl, ⟨fits_of_wf f0, fits_of_wf f3, l1, l2, l4, l5⟩⟩
theorem hon_in {v : Value} {d : DataW H} {ps : List MemPlace} (hv : ∃ cs, v = .agg cs ∧ cs.size = Tryz.prog.cellsOf 56) (h : DataW.Trod enc Tryz.prog w base spare held 56 v d ps) : ∃ h : HonD, v = h.v ∧ HonFits w h := by
  obtain ⟨cs, rfl, _⟩ := hv
  obtain ⟨fuel, hf⟩ := h
  obtain ⟨a, hx, hfit⟩ := hon_trod hf
  refine ⟨a, ?_, hfit⟩
  have : cs.toList = a.cells := by simpa [Value.cells] using hx
  show Value.agg cs = Value.agg a.cells.toArray
  rw [← this]
theorem fnd_in {v : Value} {d : DataW H} {ps : List MemPlace} (hv : ∃ cs, v = .agg cs ∧ cs.size = Tryz.prog.cellsOf 58) (h : DataW.Trod enc Tryz.prog w base spare held 58 v d ps) : ∃ h : Fnd, v = h.v ∧ FndFits h := by
  obtain ⟨cs, rfl, _⟩ := hv
  obtain ⟨fuel, hf⟩ := h
  obtain ⟨a, hx, hfit⟩ := fnd_trod hf
  refine ⟨a, ?_, hfit⟩
  have : cs.toList = a.cells := by simpa [Value.cells] using hx
  show Value.agg cs = Value.agg a.cells.toArray
  rw [← this]
end
end Go.Proofs.YtidekfbgjghcjaaGreat

