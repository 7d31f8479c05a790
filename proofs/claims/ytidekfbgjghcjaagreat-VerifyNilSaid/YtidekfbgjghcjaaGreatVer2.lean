/- Walks of Few of chapters 24 and 28 at one call, and one act. -/
import Derived.Test.YtidekfbgjghcjaaGreatOpenAct
import Derived.Test.YtidekfbgjghcjaaGreatG15
import Derived.Test.YtidekfbgjghcjaaGreatG1
import Derived.Deep.DeepAppendWide
import Derived.Deep.RegionWith
namespace Go.Proofs.YtidekfbgjghcjaaGreat
set_option linter.unusedSimpArgs false
set_option linter.unusedVariables false
open Go Go.RowKit
set_option linter.unusedVariables false

theorem MsgFits.next {w w' : World} {m : MsgD} {u l : Value} (h : MsgFits w m u l) (hb : Below w.heap.size w w') : MsgFits w' m u l :=
  ⟨h.kind, h.epoch, h.seq, h.nonce, h.tag, h.last, h.sld, h.rcp, h.at_, h.slot, h.up.below hb (Nat.le_refl _), h.left.below hb (Nat.le_refl _), h.upl, h.leftl⟩
theorem infoCall : (Tryz.prog.info? 80).map (fun i => (i.zero, i.size, i.bytes)) = some (some (.agg #[.int .i64 0, .int .i64 0, .int .i64 0, .int .i64 0, .string ByteArray.empty, .string ByteArray.empty, .slice none 0 0]), 7, 88) := by kernel_rfl
theorem sizeCall {c : CallD} : (Tryz.prog.info? 80).map (·.size) = some c.cells.length := by kernel_rfl
theorem CallD.one (c : CallD) : ∀ v ∈ c.cells, v.oneCell' = true := by
  intro v hv
  simp only [CallD.cells, List.mem_cons, List.mem_nil_iff, or_false] at hv
  rcases hv with rfl | rfl | rfl | rfl | rfl | rfl | rfl <;> rfl
/-- Yes, or no. -/
def SomeBool (e : Ending) : Prop := ∃ q : Bool, e = .returned (.bool q)
set_option maxRecDepth 100000 in
set_option maxHeartbeats 2000000 in
theorem few24_one (g cap : Nat) (c : CallD) (w : World) (h : w.rangeAt g 0 c.cells) (hc : 1 ≤ cap) (hk : c.kn ≤ 9223372036854775807) :
    Calls Tryz.prog 81 #[.slice (some ⟨g, 0, none⟩) 1 cap] w fun e w' => SomeBool e ∧ Below w.heap.size w w' := by
  have c4 : w.cell? ⟨g, 4, none⟩ = some (.string c.data) := by have := h 4 _ rfl; simpa using this
  have c5 : w.cell? ⟨g, 5, none⟩ = some (.string c.name) := by have := h 5 _ rfl; simpa using this
  have c6 : w.cell? ⟨g, 6, none⟩ = some (.slice c.kp c.kn c.kc) := by have := h 6 _ rfl; simpa using this
  have HC := Lib.hid (And.intro c4 (And.intro c5 c6))
  clear c4 c5 c6 h
  obtain ⟨a, ha⟩ : ∃ a : Nat, a = min c.data.size 10000 := ⟨_, rfl⟩
  obtain ⟨b, hb⟩ : ∃ b : Nat, b = min c.name.size 10000 := ⟨_, rfl⟩
  obtain ⟨d, hd⟩ : ∃ d : Nat, d = min c.kn 10000 := ⟨_, rfl⟩
  have ha1 : a ≤ 10000 := by omega
  have hb1 : b ≤ 10000 := by omega
  have hd1 : d ≤ 10000 := by omega
  have e1 : min (c.data.size : Int) 10000 = (a : Int) := by omega
  have e2 : min (c.name.size : Int) 10000 = (b : Int) := by omega
  have e3 : min (c.kn : Int) 10000 = (d : Int) := by omega
  have HE := Lib.hid (And.intro e1 (And.intro e2 e3))
  clear ha hb hd e1 e2 e3
  go_enter Tryz.func81, Tryz.ntmps81
  go_wp2_with fail
  go_loopw [3, 4] (fun vn vi wr => ∃ k m : Nat, k ≤ 1 ∧ vi = .int .i64 k ∧ vn = .int .i64 m ∧ m ≤ 30000 * k ∧ Below w.heap.size w wr) (fun _ vi _ => 1 - (intOf vi).toNat)
  case atStart => exact ⟨0, 0, by omega, rfl, rfl, by omega, Below.refl _ _⟩
  case round =>
    obtain ⟨k, m, hk1, rfl, rfl, hm, hbel⟩ := hrel
    have HB := Lib.hid hbel
    clear hbel
    by_cases hk0 : k = 0
    · subst hk0
      obtain rfl : m = 0 := by omega
      have hgl : g < w.heap.size := by
        by_cases hg : g < w.heap.size
        · exact hg
        · have h1 : w.heap[g]? = none := Array.getElem?_eq_none (by omega)
          have h2 := HC.out.1
          simp [World.cell?, h1] at h2
      have d4 : wr.cell? ⟨g, 4, none⟩ = some (.string c.data) := by rw [HB.out.cell (by show g < w.heap.size; exact hgl)]; exact HC.out.1
      have d5 : wr.cell? ⟨g, 5, none⟩ = some (.string c.name) := by rw [HB.out.cell (by show g < w.heap.size; exact hgl)]; exact HC.out.2.1
      have d6 : wr.cell? ⟨g, 6, none⟩ = some (.slice c.kp c.kn c.kc) := by rw [HB.out.cell (by show g < w.heap.size; exact hgl)]; exact HC.out.2.2
      have e1 := HE.out.1
      have e2 := HE.out.2.1
      have e3 := HE.out.2.2
      go_wp2_with fail
      go_quiet (fail)
      go_wp2_with fail
      go_roundw
      case rel => exact ⟨1, a + b + d, by omega, by go_num, by go_num, by omega, Below.drewN HB.out _⟩
      case measure => simp [intOf]
    · obtain rfl : k = 1 := by omega
      by_cases hm2 : m ≤ 12000
      · have hm3 : (m : Int) ≤ 12000 := by omega
        go_wp2_with fail
        go_ret
        exact ⟨⟨_, rfl⟩, HB.out⟩
      · have hm3 : ¬ (m : Int) ≤ 12000 := by omega
        go_wp2_with fail
        go_ret
        exact ⟨⟨_, rfl⟩, HB.out⟩
theorem actCell {a : ActD} (i : Nat) (hi : i < 41) : a.cells[5 + i]? = (a.m.cells a.u a.l)[i]? := by
  have hl : (a.m.cells a.u a.l).length = 41 := rfl
  unfold ActD.cells
  rw [List.getElem?_append_right (by simp <;> omega)]
  rw [List.getElem?_append_right (by simp <;> omega)]
  rw [List.getElem?_append_right (by simp <;> omega)]
  rw [List.getElem?_append_right (by simp <;> omega)]
  rw [List.getElem?_append_right (by simp <;> omega)]
  rw [List.getElem?_append_left (by simp <;> omega)]
  congr 1
  simp <;> omega
theorem actMsg {w : World} {b o : Nat} {a : ActD} (h : w.rangeAt b o a.cells) : w.rangeAt b (o + 5) (a.m.cells a.u a.l) := by
  intro j v hv
  have hj : j < 41 := (List.getElem?_eq_some_iff.1 hv).1
  have := h (5 + j) v (by rw [actCell j hj]; exact hv)
  rw [Nat.add_assoc]; exact this
theorem actCall {w : World} {b o : Nat} {a : ActD} (h : w.rangeAt b o a.cells) : w.rangeAt b (o + 46) a.call.cells := by
  intro j v hv
  have hl : (a.m.cells a.u a.l).length = 41 := rfl
  have := h (46 + j) v (by
    unfold ActD.cells
    rw [List.getElem?_append_right (by simp <;> omega)]
    rw [List.getElem?_append_right (by simp <;> omega)]
    rw [List.getElem?_append_right (by simp <;> omega)]
    rw [List.getElem?_append_right (by simp <;> omega)]
    rw [List.getElem?_append_right (by simp <;> omega)]
    rw [List.getElem?_append_right (by simp <;> omega)]
    rw [← hv]
    congr 1
    simp <;> omega)
  rw [Nat.add_assoc]; exact this
set_option maxRecDepth 100000 in
set_option maxHeartbeats 2000000 in
theorem few28_one (g cap : Nat) (a : ActD) (w : World) (h : w.rangeAt g 0 a.cells) (hg : g < w.heap.size) (hf : ActFits w a) :
    Calls Tryz.prog 29 #[.slice (some ⟨g, 0, none⟩) 1 cap] w fun e w' => SomeBool e ∧ Below w.heap.size w w' := by
  have HH := Lib.hid h
  have HF := Lib.hid hf
  clear h hf
  obtain ⟨i0, hi, hz0, hz1, hz2⟩ := info_parts infoCall
  go_enter Tryz.func29, Tryz.ntmps29
  go_wp2_with fail
  go_loopw [3, 10] (fun vo i wr => ∃ k : Nat, k ≤ 1 ∧ i = .int .i64 k ∧ wr.ownsRow w.heap.size 80 7 vo k (if k = 0 then [] else a.call.cells) ∧ Below w.heap.size w wr) (fun _ i _ => 1 - (intOf i).toNat)
  case atStart => exact ⟨0, by omega, rfl, World.ownsRow_nil _ _ _ _, Below.refl _ _⟩
  case round =>
    obtain ⟨k, hk1, rfl, hown, hbel⟩ := hrel
    have HB := Lib.hid hbel
    have HO := Lib.hid hown
    clear hbel hown
    by_cases hk0 : k = 0
    · subst hk0
      have HR := Lib.hid (show wr.rangeAt g 0 a.cells from fun j v hv => by rw [HB.out.cell (by show g < w.heap.size; exact hg)]; exact HH.out j v hv)
      have R5 := Lib.hid (actMsg HR.out)
      go_wp2_with (first
        | ((with_reducible refine wpList_load_met 39 (.tmp 16) g 5 (a.m.cells a.u a.l) _ (some 17) (R5.out) Tryz.underlying39 rfl sizeMsg ?hg ?ho ?hds ?hx ?_); (case ho => rfl); (case hg => rfl); (case hds => rfl); (case hx => rfl))
        | fail)
      refine (few27_walk a.m a.u a.l _ (HF.out.msg.next HB.out)).mono ?_
      rintro e w1 ⟨hq, hb1⟩
      obtain ⟨q, rfl, hq⟩ := hq
      clear hq
      have HB1 := Lib.hid (HB.out.trans (hb1.mono HB.out.size))
      have HR1 := Lib.hid (show w1.rangeAt g 0 a.cells from fun j v hv => by rw [HB1.out.cell (by show g < w.heap.size; exact hg)]; exact HH.out j v hv)
      have HO1 := Lib.hid (own_below (hb1.mono (Nat.le_refl _)) HO.out)
      clear hb1
      cases q with
      | false =>
        go_wp2_with fail
        go_ret
        exact ⟨⟨_, rfl⟩, HB1.out⟩
      | true =>
        have c4 : w1.cell? ⟨g, 4, none⟩ = some (.slice a.pa a.na a.ca) := by have := HR1.out 4 _ rfl; simpa using this
        have c3 : w1.cell? ⟨g, 3, none⟩ = some (.string a.name) := by have := HR1.out 3 _ rfl; simpa using this
        by_cases h4 : a.na ≤ 100
        rotate_left
        · have h4' : (100 : Int) < a.na := by omega
          go_wp2_with fail
          go_ret
          exact ⟨⟨_, rfl⟩, HB1.out⟩
        have h4' : ¬ (100 : Int) < a.na := by omega
        by_cases h3 : a.name.size ≤ 1000
        rotate_left
        · have h3' : (1000 : Int) < a.name.size := by omega
          go_wp2_with fail
          go_ret
          exact ⟨⟨_, rfl⟩, HB1.out⟩
        have h3' : ¬ (1000 : Int) < a.name.size := by omega
        have RC := Lib.hid (actCall HR1.out)
        obtain ⟨pp, cc, hsh⟩ := own_shape HO1.out
        subst hsh
        go_wp2_with (first
          | ((with_reducible refine wpList_load_met 80 (.tmp 42) g 46 (a.call.cells) _ (some 43) (RC.out) Tryz.underlying80 rfl sizeCall ?hg ?ho ?hds ?hx ?_); (case ho => rfl); (case hg => rfl); (case hds => rfl); (case hx => rfl))
          | ((with_reducible refine wpList_slice_new 149 80 1 ?parts a.call.cells (.agg #[.int .i64 0, .int .i64 0, .int .i64 0, .int .i64 0, .string ByteArray.empty, .string ByteArray.empty, .slice none 0 0]) 7 88 (some 44) Tryz.underlying149 infoCall (by omega) (by omega) ?hgd ?ho ?hd ?hf ?_); (case hgd => rfl); (case ho => rfl); (case hd => rfl); (case hf => kernel_rfl); (intro g7 w7 l7 B7 e7 z7); (have hb7 := HB1.out.trans (e7.mono (Nat.le_trans HB1.out.size l7))); (have own7 := own_below (e7.mono l7) HO1.out))
          | (at_builtin; refine wpList_append_own_wide _ rfl _ _ 149 rfl w.heap.size 80 i0 (.agg #[.int .i64 0, .int .i64 0, .int .i64 0, .int .i64 0, .string ByteArray.empty, .string ByteArray.empty, .slice none 0 0]) 7 88 Tryz.underlying149 hi hz0 hz1 hz2 rfl (by decide) _ 0 _ rfl own7 ⟨g7, 0, none⟩ 1 1 a.call.cells rfl rfl (cells_add B7) (CallD.one _) (by unfold maxLen; omega) (by omega) hb7.size ?_; intro v' w8 own8 grow8 nil8)
          | fail)
        go_roundw
        case rel => exact ⟨1, by omega, by go_num, own8, below_own hb7 own7 grow8 (Nat.le_refl _) hb7.size⟩
        case measure => simp [intOf]
    · obtain rfl : k = 1 := by omega
      obtain ⟨g', cap', z', rfl, hc', hbg, hk'⟩ := own_split HO.out (by omega)
      have HK := Lib.hid hk'
      clear hk'
      go_wp2_with fail
      refine (few24_one g' cap' a.call _ ?_ (by omega) HF.out.keep).mono ?_
      · exact (HK.out.row).range
      rintro e w9 ⟨⟨q, rfl⟩, hb9⟩
      go_wp2_with fail
      go_ret
      exact ⟨⟨_, rfl⟩, HB.out.trans (hb9.mono HB.out.size)⟩
end Go.Proofs.YtidekfbgjghcjaaGreat
