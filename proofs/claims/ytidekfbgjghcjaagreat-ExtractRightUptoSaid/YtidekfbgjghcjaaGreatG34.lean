/- Walk of chapter 32's example. Walk of chapter 32's example. -/
import Derived.Test.YtidekfbgjghcjaaGreatG32
import Derived.Test.YtidekfbgjghcjaaGreatExt3
import Derived.Test.YtidekfbgjghcjaaGreatForge2
import Derived.Test.YtidekfbgjghcjaaGreatMsg
import Derived.Deep.QuietTactic
import Derived.WalkMore
import Derived.BigQuiet
namespace Go.Proofs.YtidekfbgjghcjaaGreat
set_option linter.unusedSimpArgs false
set_option linter.unusedVariables false
open Go Go.RowKit

theorem zeroCell32 (w : World) : Sem.run Tryz.prog (zeroValue 130) w = .ok (.agg #[.int .i64 0, .int .i64 0, .int .i64 0, .bool false, .string ⟨#[]⟩]) w := by kernel_rfl
theorem sizeCell32 {a b c d e : Value} : (Tryz.prog.info? 130).map (·.size) = some [a, b, c, d, e].length := by kernel_rfl
theorem cellOne32 : ∀ v ∈ ([.int .i64 1, .int .i64 2, .int .i64 3, .bool false, .string ⟨#[120]⟩] : List Value), v.oneCell' = true := by intro v hv; simp at hv; rcases hv with rfl | rfl | rfl | rfl | rfl <;> rfl

set_option maxRecDepth 100000 in
set_option maxHeartbeats 2000000 in
theorem leaves32_walk (g c : Nat) (w : World) (h : Blk w g [.int .i64 1, .int .i64 2, .int .i64 3, .bool false, .string ⟨#[120]⟩] 130) :
    Calls Tryz.prog 62 #[.slice (some ⟨g, 0, none⟩) 1 c, .int .i64 1] w fun e w' => (∃ g cap, e = .returned (.slice (some ⟨g, 0, none⟩) 1 cap) ∧ w'.cell? ⟨g, 0, none⟩ = some (.int .i64 3)) ∧ Below w.heap.size w w' := by
  have HG := Lib.hid h
  clear h
  go_enter Tryz.func62, Tryz.ntmps62
  go_wp2_with fail
  refine (segNew_walk _).mono ?_
  rintro e w1 ⟨⟨ps, B, rfl, hs, hB, hne⟩, hb1⟩
  have HS := Lib.hid hs
  have HB1 := Lib.hid hb1
  clear hs hb1
  go_wp2_with fail
  go_loopw [18] (fun i wr => ∃ k : Nat, k ≤ 1 ∧ i = .int .i64 k ∧ (k = 0 → SegAt wr ps B 0 (.map [])) ∧ (k = 1 → ∃ D, SegAt wr ps B 1 D ∧ HasThree D) ∧ Below w.heap.size w wr) (fun i _ => 1 - (intOf i).toNat)
  case atStart => exact ⟨0, by omega, rfl, fun _ => HS.out, fun h => by omega, HB1.out⟩
  case round =>
    obtain ⟨k, hk, rfl, h0, h1, hbel⟩ := hrel
    have H0 := Lib.hid h0
    have H1 := Lib.hid h1
    have HBR := Lib.hid hbel
    clear h0 h1 hbel
    by_cases hk0 : k = 0
    · subst hk0
      have R0 := HG.out.below HBR.out HG.out.lt
      have r0 := R0.cell (i := 0) rfl
      have r1 := R0.cell (i := 1) rfl
      have r2 := R0.cell (i := 2) rfl
      have r3 := R0.cell (i := 3) rfl
      have r4 := R0.cell (i := 4) rfl
      have HS0 := Lib.hid (H0.out rfl)
      clear R0
      go_wp2_with (first
        | ((with_reducible refine wpList_alloc_new 130 ([.int .i64 0, .int .i64 0, .int .i64 0, .bool false, .string ⟨#[]⟩]) zeroCell32 (some 8) ?hgd ?ho ?hd ?_); (case hgd | ho | hd => rfl); (intro b5 w5 l5 B5 e5 z5))
        | ((with_reducible refine wpList_store_new 130 (.tmp 8) (.tmp 21) b5 ([.int .i64 0, .int .i64 0, .int .i64 0, .bool false, .string ⟨#[]⟩]) ([.int .i64 1, .int .i64 2, .int .i64 3, .bool false, .string ⟨#[120]⟩]) 130 B5 rfl sizeCell32 cellOne32 ?hgd ?ho ?hx ?hy ?_); (case hgd | ho | hx | hy => rfl); (intro w6 B6 o6); have hb6 := o6.below (e5.mono l5) l5; have c0 := B6.cell (i := 0) rfl; have c1 := B6.cell (i := 1) rfl; have c2 := B6.cell (i := 2) rfl; have c3 := B6.cell (i := 3) rfl; have c4 := B6.cell (i := 4) rfl)
        | fail)
      have HX6 := Lib.hid B6
      have HSS6 := Lib.hid (HS0.out.below hb6)
      have HB6 := Lib.hid (HBR.out.trans (hb6.mono HBR.out.size))
      clear B5 B6 o6 e5 l5 z5 hb6 r0 r1 r2 r3 r4
      refine (cellCheck_walk _).mono ?_
      rintro e w7 ⟨rfl, hb7⟩
      have HX7 := Lib.hid (HX6.out.below hb7 HX6.out.lt)
      have HSS7 := Lib.hid (HSS6.out.below hb7)
      have HB7 := Lib.hid (HB6.out.trans (hb7.mono HB6.out.size))
      clear hb7 c0 c1 c2 c3 c4
      have c1 := HX7.out.cell (i := 1) rfl
      have c2 := HX7.out.cell (i := 2) rfl
      have c4 := HX7.out.cell (i := 4) rfl
      go_wp2_with fail
      refine (segPut_walk ps B w _ HSS7.out HB7.out hB hne).mono ?_
      rintro e w8 ⟨⟨r, rfl, hr, hs8⟩, hb8⟩
      have HSS8 := Lib.hid hs8
      have HB8 := Lib.hid hb8
      clear hs8 hb8 c1 c2 c4
      go_wp2_with fail
      go_roundw
      case rel => exact ⟨1, by omega, by go_num, fun h => (by omega), fun _ => ⟨_, HSS8.out, hasThree_put _ HSS7.out.map.isMap⟩, HB8.out⟩
      case measure => simp [intOf]
    · obtain rfl : k = 1 := by omega
      obtain ⟨D, hs1, h3⟩ := H1.out rfl
      have HS1 := Lib.hid hs1
      clear hs1
      go_wp2_with fail
      refine (segLeaves_walk ps B 1 D _ HS1.out h3).mono ?_
      rintro e w9 ⟨⟨g', cap, rfl, hc⟩, hb9⟩
      have HB9 := Lib.hid (HBR.out.trans (hb9.mono HBR.out.size))
      have HC := Lib.hid hc
      clear hb9 hc
      go_wp2_with fail
      go_ret
      exact ⟨⟨g', cap, rfl, HC.out⟩, HB9.out⟩

def seenZero : List Value := MsgD.zero.cells (.slice none 0 0) (.slice none 0 0) ++ [.slice none 0 0, .slice none 0 0]
theorem cell_lt {w : World} {g i : Nat} {v : Value} (h : w.cell? ⟨g, i, none⟩ = some v) : g < w.heap.size := by
  by_cases hg : g < w.heap.size
  · exact hg
  · have : w.heap[g]? = none := Array.getElem?_eq_none (by omega)
    simp [World.cell?, this] at h
set_option maxRecDepth 100000 in
set_option maxHeartbeats 4000000 in
theorem find32_walk (w : World) :
    Calls Tryz.prog 63 #[.agg #[.slice none 0 0, .slice none 0 0, .slice none 0 0], .int .i64 5, .agg seenZero.toArray] w fun e w' => e = .returned Fnd.zero.v ∧ Below w.heap.size w w' := by
  go_enter Tryz.func63, Tryz.ntmps63
  go_wp2_with (first
    | ((with_reducible refine wpList_box_new 56 (.tmp 0) ([.slice none 0 0, .slice none 0 0, .slice none 0 0]) (some 3) ?hgd ?ho ?hd ?hx ?_); (case hgd | ho | hd | hx => rfl); (intro b3 w3 l3 B3 e3 z3))
    | ((with_reducible refine wpList_box_new 62 (.tmp 2) (seenZero) (some 5) ?hgd ?ho ?hd ?hx ?_); (case hgd | ho | hd | hx => rfl); (intro b5 w5 l5 B5 e5 z5))
    | ((with_reducible refine wpList_alloc_new 58 (Fnd.zero.cells) zeroFnd (some 6) ?hgd ?ho ?hd ?_); (case hgd | ho | hd => rfl); (intro b6 w6 l6 B6 e6 z6); have X3 := (B3.below e5 (Nat.lt_of_lt_of_le B3.lt l5)).below e6 (Nat.lt_of_lt_of_le (Nat.lt_of_lt_of_le B3.lt l5) (Nat.le_trans (Nat.le_of_lt B5.lt) l6)); have X5 := B5.below e6 (Nat.lt_of_lt_of_le B5.lt l6); have a30 := X3.cell (i := 0) rfl; have a51 := X5.cell (i := 41) rfl; have a52 := X5.cell (i := 42) rfl; have HB6 : Below w.heap.size w w6 := ((e3.mono l3).trans (e5.mono (by have := e3.size; omega))).trans (e6.mono (by have := e3.size; have := e5.size; omega)); have f6 : w.heap.size ≤ b6 := (by have := e3.size; have := e5.size; omega))
    | fail)
  have HY6 := Lib.hid X5
  have HZ6 := Lib.hid B6
  have HFL := Lib.hid f6
  have HBB6 := Lib.hid HB6
  go_step3
  go_wp2_with fail
  clear a30 a51 a52 X3 X5 B3 B5 B6 e3 e5 e6 l3 l5 l6 z3 z5 z6 f6 HB6
  refine (cforge_walk _ _ [] [] 5 _ (.inl ⟨rfl, _, _, rfl⟩) (.inl ⟨rfl, _, _, rfl⟩) (by simp) (by simp) (fun j x hx => by simp at hx) (fun j x hx => by simp at hx)).mono ?_
  rintro e w7 ⟨he, hb7⟩
  have HY7 := Lib.hid (HY6.out.below hb7 HY6.out.lt)
  have HZ7 := Lib.hid (HZ6.out.below hb7 HZ6.out.lt)
  have HB7 := Lib.hid (HBB6.out.trans (hb7.mono HBB6.out.size))
  have a52 := HY7.out.cell (i := 42) rfl
  clear hb7
  rcases he with ⟨k, t, s, _, h, _⟩ | ⟨_, rfl⟩
  · simp at h
  go_wp2_with fail
  go_step3
  go_wp2_with fail
  go_loopw [38] (fun i wr => i = .int .i64 0 ∧ wr = w7) (fun _ _ => 0)
  case atStart => exact ⟨rfl, rfl⟩
  case round =>
    obtain ⟨rfl, rfl⟩ := hrel
    go_wp2_with (first
      | ((with_reducible refine wpList_build_eq 58 ?parts (Fnd.zero.cells) ?hg ?ho ?hf ?_); (case hg | ho => rfl); (case hf => kernel_rfl))
      | ((with_reducible refine wpList_store_new 58 (.tmp 6) (.tmp 84) b6 (Fnd.zero.cells) (Fnd.zero.cells) 58 HZ7.out rfl sizeFnd (Fnd.cells_one _) ?hgd ?ho ?hx ?hy ?_); (case hgd | ho | hx | hy => rfl); (intro w9 B9 o9))
      | fail)
    (try simp only [Exit.inBlock, Exit.then])
    rw [Exit.noGoto_ret]
    refine bodyPost_ret (results_cell1e rfl _ _ B9.range rfl Tryz.underlying58 rfl sizeFnd) rfl ⟨rfl, o9.below HB7.out HFL.out⟩
set_option maxRecDepth 100000 in
theorem eqFndZ (w : World) : (Op.equalIn 10000 58 (.agg #[.int .i64 0, .string ⟨#[]⟩, .string ⟨#[]⟩, .int .i64 0, .string ⟨#[]⟩, .string ⟨#[]⟩]) (.agg #[.int .i64 0, .string ⟨#[]⟩, .string ⟨#[]⟩, .int .i64 0, .string ⟨#[]⟩, .string ⟨#[]⟩])).run Tryz.prog w = .ok true w := by
  have e : true = ((0 : Int) == 0 && (decide ((⟨#[]⟩ : ByteArray) = ⟨#[]⟩) && (decide ((⟨#[]⟩ : ByteArray) = ⟨#[]⟩) && ((0 : Int) == 0 && (decide ((⟨#[]⟩ : ByteArray) = ⟨#[]⟩) && (decide ((⟨#[]⟩ : ByteArray) = ⟨#[]⟩) && true)))))) := by simp
  rw [e]
  refine eq_struct (d := 9999) Tryz.underlying58 (by kernel_rfl) ?_
  refine eqf_int (k := .i64) (d := 9998) (by decide) (by kernel_rfl) (by kernel_rfl) Tryz.underlying3 ?_
  refine eqf_str (d := 9998) (by decide) (by kernel_rfl) (by kernel_rfl) Tryz.underlying9 ?_
  refine eqf_str (d := 9998) (by decide) (by kernel_rfl) (by kernel_rfl) Tryz.underlying9 ?_
  refine eqf_int (k := .i64) (d := 9998) (by decide) (by kernel_rfl) (by kernel_rfl) Tryz.underlying3 ?_
  refine eqf_str (d := 9998) (by decide) (by kernel_rfl) (by kernel_rfl) Tryz.underlying9 ?_
  refine eqf_str (d := 9998) (by decide) (by kernel_rfl) (by kernel_rfl) Tryz.underlying9 ?_
  exact eqf_nil
theorem eqFndY (w : World) : (Op.equalIn 10000 58 (.agg Fnd.zero.cells.toArray) (.agg Fnd.zero.cells.toArray)).run Tryz.prog w = .ok true w := eqFndZ w
theorem builtSeen : Tryz.prog.built 62 [] = some seenZero.toArray := by kernel_rfl
theorem guardFnd : Tryz.prog.eqGuardType Tryz.prog.depth 58 = false := by kernel_rfl
end Go.Proofs.YtidekfbgjghcjaaGreat

namespace Go.Proofs.YtidekfbgjghcjaaGreat
set_option linter.unusedSimpArgs false
set_option linter.unusedVariables false
open Go Go.RowKit

set_option maxRecDepth 100000 in
set_option maxHeartbeats 4000000 in
theorem alive32 (w : World) :
    Calls Tryz.prog 17 #[] w fun e w' => e = .returned (.bool true) ∧ Below w.heap.size w w' := by
  go_enter Tryz.func17, Tryz.ntmps17
  go_wp2_with (first
    | ((with_reducible refine wpList_build_eq 130 ?parts ([.int .i64 1, .int .i64 2, .int .i64 3, .bool false, .string ⟨#[120]⟩]) ?hg ?ho ?hf ?_); (case hg | ho => rfl); (case hf => kernel_rfl))
    | fail)
  refine (leaves32_walk w.heap.size 1 _ (Blk.new w [.int .i64 1, .int .i64 2, .int .i64 3, .bool false, .string ⟨#[120]⟩] 130)).mono ?_
  rintro e w2 ⟨⟨g, cap, rfl, hc⟩, hb2⟩
  have HC := Lib.hid hc
  have HB2 := Lib.hid (show Below w.heap.size w w2 from Below.trans ((Below.refl _ _).alloc (Nat.le_refl _) _) (hb2.mono (by simp)))
  have hgl : g < w2.heap.size := cell_lt hc
  clear hc hb2
  go_wp2_with (first
    | ((with_reducible refine wpList_build_eq 56 ?parts ([.slice none 0 0, .slice none 0 0, .slice none 0 0]) ?hg ?ho ?hf ?_); (case hg | ho => rfl); (case hf => kernel_rfl))
    | ((with_reducible refine wpList_build_eq 62 ?parts (seenZero) ?hg ?ho ?hf ?_); (case hg | ho => rfl); (case hf => exact builtSeen))
    | fail)
  refine (find32_walk _).mono ?_
  rintro e w3 ⟨rfl, hb3⟩
  have HB3 := Lib.hid (HB2.out.trans (hb3.mono HB2.out.size))
  have c0 : w3.cell? ⟨g, 0, none⟩ = some (.int .i64 3) := by rw [hb3.cell (by show g < w2.heap.size; exact hgl)]; exact HC.out
  clear hb3
  go_wp2_with (first
    | ((with_reducible refine wpList_build_eq 58 ?parts (Fnd.zero.cells) ?hg ?ho ?hf ?_); (case hg | ho => rfl); (case hf => kernel_rfl))
    | ((with_reducible refine wpList_eq_agg 58 58 (.tmp 7) (.tmp 8) Fnd.zero.cells.toArray Fnd.zero.cells.toArray _ (some 9) guardFnd (eqFndY _) ?hgd ?ho ?hd ?hx ?hy ?_); (case hgd | ho | hd | hx | hy => rfl))
    | fail)
  go_ret
  exact ⟨rfl, HB3.out⟩
end Go.Proofs.YtidekfbgjghcjaaGreat

