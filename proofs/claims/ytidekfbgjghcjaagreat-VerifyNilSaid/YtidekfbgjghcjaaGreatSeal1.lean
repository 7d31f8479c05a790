/- Walks of chain.begin, records, beyond, and of Follow at an epoch that may not be (chapter 20). -/
import Derived.Test.YtidekfbgjghcjaaGreatSealS
import Derived.Test.YtidekfbgjghcjaaGreatG1
import Derived.Deep.QuietTactic
import Derived.BigQuiet
import Derived.Deep.RegionWith
import Derived.Deep.DeepAppendWide
import Derived.Deep.DeepCutAuto
import Derived.OneCell
namespace Go.Proofs.YtidekfbgjghcjaaGreat
set_option linter.unusedSimpArgs false
set_option linter.unusedVariables false
open Go Go.RowKit
set_option linter.unusedVariables false

/-- A sealer's cells. -/
def slrCells (key : ByteArray) (ep : Int) (was : ByteArray) (seq : Int) : List Value := [.string key, .int .i64 ep, .string was, .int .i64 seq]
def epochAt (w : World) (b : Nat) : Int := match w.cell? ⟨b, 1, none⟩ with | some (.int _ n) => n | _ => 0
theorem atL_succ (root : List UInt8) (f j : Nat) : atL root f (j + 1) = madeL (atL root f j) [110, 101, 120, 116] [] := rfl
theorem Kept.blkNe {b : Nat} {w w' : World} (h : Kept b w w') {b' : Nat} {x : Rec} (hb : RecAt w b' x) (hne : b' ≠ b) : RecAt w' b' x := by
  have k : ∀ i, w'.cell? ⟨b', i, none⟩ = w.cell? ⟨b', i, none⟩ := fun i => by simp [World.cell?, h.block b' hb.lt hne]
  exact ⟨by have := h.size; have := hb.lt; omega, by rw [k]; exact hb.c0, by rw [k]; exact hb.c1, by rw [k]; exact hb.c2, by rw [k]; exact hb.c3, by rw [k]; exact hb.c4, by rw [k]; exact hb.c5, by rw [k]; exact hb.c6, by rw [k]; exact hb.c7⟩

theorem slrBegin_walk (root : ByteArray) (first : Int) (w : World) (h : root.size = 32) (h0 : 0 ≤ first) (h1 : first ≤ 4294967295) :
    Calls Tryz.prog 78 #[.string root, .int .i64 first] w fun e w' => ∃ b key was, e = .returned (.tuple #[.pointer (some ⟨b, 0, none⟩), .int .i64 0]) ∧ Txt key (atL root.data.toList first.toNat 0) ∧ Txt was (List.replicate 32 0) ∧ Blk w' b (slrCells key first was 0) 208 ∧ w.heap.size ≤ b ∧ Below w.heap.size w w' := by
  go_enter Tryz.func78, Tryz.ntmps78
  go_wp2_with fail
  refine (firstKey_walk root first _).mono ?_
  rintro e w1 ⟨he, hb1⟩
  obtain ⟨key, rfl, tk⟩ := he.yes ⟨h0, h1, h⟩
  go_wp2_with fail
  refine (begin_walk _).mono ?_
  rintro e w2 ⟨was, rfl, tw, hb2⟩
  go_wp2_with ((with_reducible refine wpList_box_new 208 (.tmp 17) (slrCells key first was 0) (some 18) ?hgd ?ho ?hd ?hx ?_); (case hgd => rfl); (case ho => rfl); (case hd => rfl); (case hx => rfl); (intro b w3 l3 B3 e3 z3))
  go_ret2
  have hb12 := bt hb1 hb2
  exact ⟨b, key, was, rfl, tk, tw, B3, by have := hb12.size; omega, hb12.trans (e3.mono (by have := hb12.size; omega))⟩

def flatC (l : List Rec) : List Value := l.flatMap Rec.cells
theorem flatC_snoc (l : List Rec) (r : Rec) : flatC (l ++ [r]) = flatC l ++ r.cells := by simp [flatC]
theorem flatC_at (ys : List Rec) : ∀ (j : Nat) (y : Rec), ys[j]? = some y → ∀ (i : Nat) (u : Value), y.cells[i]? = some u → (flatC ys)[j * 8 + i]? = some u := by
  induction ys with
  | nil => intro j y h; simp at h
  | cons a r ih =>
    intro j y h i u hu
    have ha : a.cells.length = 8 := rfl
    show (a.cells ++ flatC r)[_]? = _
    cases j with
    | zero =>
      simp at h
      subst h
      have := (List.getElem?_eq_some_iff.1 hu).1
      rw [List.getElem?_append_left (by omega), Nat.zero_mul, Nat.zero_add]
      exact hu
    | succ j =>
      rw [List.getElem?_append_right (by omega), ha, show (j + 1) * 8 + i - 8 = j * 8 + i by omega]
      exact ih j y (by simpa using h) i u hu
theorem RecRow.below {w w' : World} {v : Value} {l : List Rec} (h : RecRow w v l) {B : Nat} (hb : Below B w w') (hB : w.heap.size ≤ B) : RecRow w' v l := by
  refine h.imp id ?_
  rintro ⟨g, o, c, h1, h2, h3⟩
  exact ⟨g, o, c, h1, by have := hb.size; omega, fun j x hx i u hu => by rw [hb.cell (by show g < B; omega)]; exact h3 j x hx i u hu⟩
theorem RecRow.own {w : World} {base n : Nat} {v : Value} {xs : List Rec} (h : w.ownsRow base 25 8 v n (flatC xs)) (hn : n = xs.length) : RecRow w v xs := by
  subst hn
  by_cases h0 : xs = []
  · subst h0
    exact .inl ⟨rfl, own_nil h⟩
  · obtain ⟨g, cap, z, rfl, hc, hb, hk⟩ := own_split h (List.length_pos_iff.2 h0)
    refine .inr ⟨g, 0, cap, rfl, hk.lt, fun j x hx i u hu => ?_⟩
    refine hk.cell ?_
    have h1 := flatC_at xs j x hx i u hu
    rw [Nat.zero_add, List.getElem?_append_left (List.getElem?_eq_some_iff.1 h1).1]
    exact h1
theorem infoRec : (Tryz.prog.info? 25).map (fun i => (i.zero, i.size, i.bytes)) = some (some (.agg Rec.zero.cells.toArray), 8, 80) := by kernel_rfl
theorem zeroSld (w : World) : Sem.run Tryz.prog (zeroValue 27) w = .ok (.agg (Sld.cells ⟨Rec.zero, ⟨#[]⟩⟩).toArray) w := by kernel_rfl
theorem rsizeSld {x : Sld} : (Tryz.prog.info? 27).map (·.size) = some x.cells.length := by kernel_rfl
theorem Sld.cells_one (x : Sld) : ∀ v ∈ x.cells, v.oneCell' = true := by intro v hv; simp [Sld.cells] at hv; rcases hv with rfl | rfl | rfl | rfl | rfl | rfl | rfl | rfl | rfl <;> rfl
theorem Rec.cells_one1 (x : Rec) : ∀ v ∈ x.cells, v.oneCell' = true := by intro v hv; simp [Rec.cells] at hv; rcases hv with rfl | rfl | rfl | rfl | rfl | rfl | rfl | rfl <;> rfl

set_option maxRecDepth 100000 in
set_option maxHeartbeats 2000000 in
theorem crecords_walk (v : Value) (l : List Sld) (w : World) (h : SldRow w v l) (hl : l.length ≤ 1048576) :
    Calls Tryz.prog 75 #[v] w fun e w' => ∃ vo, e = .returned vo ∧ w'.ownsRow w.heap.size 25 8 vo l.length (flatC (l.map Sld.r)) ∧ Below w.heap.size w w' := by
  obtain ⟨p, c, rfl⟩ := h.shape
  obtain ⟨n, hn⟩ : ∃ n, n = l.length := ⟨_, rfl⟩
  rw [← hn] at h ⊢
  have hn2 : n ≤ 1048576 := by omega
  have HN := Lib.hid hn
  have HR := Lib.hid h; clear h hl hn
  obtain ⟨i0, hi, hz0, hz1, hz2⟩ := info_parts infoRec
  go_enter Tryz.func75, Tryz.ntmps75
  go_wp2_with fail
  go_loopw [3, 8] (fun vo i wr => ∃ k : Nat, k ≤ n ∧ i = .int .i64 k ∧ wr.ownsRow w.heap.size 25 8 vo k (flatC ((l.map Sld.r).take k)) ∧ Below w.heap.size w wr) (fun _ i _ => n - (intOf i).toNat)
  case atStart => exact ⟨0, by omega, rfl, World.ownsRow_nil _ _ _ _, Below.refl _ _⟩
  case round =>
    obtain ⟨k, hk, rfl, hown, hbel⟩ := hrel
    obtain ⟨q, d, rfl⟩ := own_shape hown
    have HO := Lib.hid hown; clear hown
    by_cases hlt : k < n
    · have hlt' : (k : Int) < n := by omega
      rcases HR.out with ⟨h0, _⟩ | ⟨g, o, c', hq, hcc, hg, hat⟩
      · have := HN.out; rw [h0] at this; simp at this; omega
      rw [← HN.out] at hq
      injection hq with hq1 _ hq3
      subst hq1 hq3
      obtain ⟨x, hx⟩ : ∃ x, l[k]? = some x := ⟨_, List.getElem?_eq_getElem (by rw [← HN.out]; exact hlt)⟩
      have hrange : wr.rangeAt g (o + k * 9) x.cells := fun j u hu => by rw [hbel.cell (by show g < w.heap.size; exact hg)]; exact hat k x hx j u hu
      obtain ⟨c0, c1, c2, c3, c4, c5, c6, c7, c8⟩ := sld_cells hrange
      have htake : flatC ((l.map Sld.r).take (k + 1)) = flatC ((l.map Sld.r).take k) ++ x.r.cells := by
        have h1 : (l.map Sld.r)[k]? = some x.r := by simp [hx]
        obtain ⟨h2, h3⟩ := List.getElem?_eq_some_iff.1 h1
        rw [List.take_succ_eq_append_getElem h2, h3, flatC_snoc]
      have HTK := Lib.hid htake
      clear htake hrange hat hx
      go_wp2_with (first
        | ((with_reducible refine wpList_alloc_new 27 (Sld.cells ⟨Rec.zero, ⟨#[]⟩⟩) zeroSld (some 5) ?hgd ?ho ?hd ?_); (case hgd => rfl); (case ho => rfl); (case hd => rfl); (intro b5 w5 l5 B5 e5 z5))
        | ((with_reducible refine wpList_store_new 27 (.tmp 5) (.tmp 11) b5 (Sld.cells ⟨Rec.zero, ⟨#[]⟩⟩) x.cells 27 B5 rfl rsizeSld (Sld.cells_one _) ?hgd ?ho ?hx ?hy ?_); (case hgd => rfl); (case ho => rfl); (case hx => rfl); (case hy => rfl); (intro w6 B6 o6); (have d0 := B6.cell (i := 0) rfl); (have d1 := B6.cell (i := 1) rfl); (have d2 := B6.cell (i := 2) rfl); (have d3 := B6.cell (i := 3) rfl); (have d4 := B6.cell (i := 4) rfl); (have d5 := B6.cell (i := 5) rfl); (have d6 := B6.cell (i := 6) rfl); (have d7 := B6.cell (i := 7) rfl))
        | ((with_reducible refine wpList_slice_new 139 25 1 ?parts x.r.cells (.agg Rec.zero.cells.toArray) 8 80 (some 15) Tryz.underlying139 infoRec (by omega) (by omega) ?hgd ?ho ?hd ?hf ?_); (case hgd => rfl); (case ho => rfl); (case hd => rfl); (case hf => kernel_rfl); (intro g7 w7 l7 B7 e7 z7); (have hb6 := o6.below (e5.mono l5) l5); (have hb7 := hb6.trans (e7.mono (Nat.le_trans hb6.size l7))); (have own7 := own_below hb7 HO.out))
        | (at_builtin; refine wpList_append_own_wide _ rfl _ _ 139 rfl w.heap.size 25 i0 (.agg Rec.zero.cells.toArray) 8 80 Tryz.underlying139 hi hz0 hz1 hz2 rfl (by decide) _ _ _ rfl own7 ⟨g7, 0, none⟩ 1 1 x.r.cells rfl rfl (cells_add B7) (Rec.cells_one1 _) (by unfold maxLen; omega) (by omega) (by have := hbel.size; have := hb7.size; omega) ?_; intro v' w8 own8 grow8 nil8)
        | fail)
      have b7 := hbel.trans (hb7.mono hbel.size)
      go_roundw
      case rel => exact ⟨k + 1, by omega, by go_num, by rw [HTK.out]; exact own8, below_own b7 own7 grow8 (Nat.le_refl _) b7.size⟩
      case measure => simp [intOf]; omega
    · obtain rfl : k = n := by omega
      go_wp2_with fail
      go_ret
      refine ⟨_, rfl, ?_, hbel⟩
      have := HO.out
      rw [List.take_of_length_le (by rw [List.length_map, ← HN.out]; omega)] at this
      exact this

set_option maxRecDepth 100000 in
set_option maxHeartbeats 1000000 in
theorem beyond_walk (first : Int) (v : Value) (l : List Rec) (w : World) (h : RecRow w v l) (hl : l.length ≤ 1048576) (h0 : 0 ≤ first) (h1 : first ≤ 4294967295) (he : ∀ r, l.getLast? = some r → 0 ≤ r.epoch ∧ r.epoch ≤ 4294967295) :
    Calls Tryz.prog 77 #[.int .i64 first, v] w fun e w' => e = .returned (.bool (beyondS first l)) ∧ w = w' := by
  rcases h with ⟨rfl, p, c, rfl⟩ | ⟨g, o, c, rfl, hg, hc⟩
  · go_enter Tryz.func77, Tryz.ntmps77
    go_wp2_with fail
    go_ret
    exact ⟨rfl, rfl⟩
  · by_cases hn0 : l = []
    · subst hn0
      clear hc
      go_enter Tryz.func77, Tryz.ntmps77
      go_wp2_with fail
      go_ret
      exact ⟨rfl, rfl⟩
    · obtain ⟨n, hn⟩ : ∃ n, n = l.length := ⟨_, rfl⟩
      have hpos : 0 < n := by rw [hn]; exact List.length_pos_iff.2 hn0
      obtain ⟨r, hr⟩ : ∃ r, l[n - 1]? = some r := ⟨_, List.getElem?_eq_getElem (by omega)⟩
      have hlast : l.getLast? = some r := by rw [List.getLast?_eq_getElem?, ← hn, hr]
      obtain ⟨e0, e1⟩ := he r hlast
      have c1 : w.cell? ⟨g, o + (n - 1) * 8 + 1, none⟩ = some (.int .i64 r.epoch) := hc _ r hr 1 _ rfl
      have hby : beyondS first l = decide (4096 < r.epoch - first) := by unfold beyondS; rw [hlast]
      have HB := Lib.hid hby
      have k0 : (0 : Int) < n := by omega
      have k1 : (0 : Int) ≤ (n : Int) - 1 := by omega
      have k2 : (n : Int) - 1 < n := by omega
      have k4 : (n : Int) ≤ 1048576 := by omega
      rw [← hn]
      clear hc hr hn0 hlast hby hn hl he
      go_enter Tryz.func77, Tryz.ntmps77
      go_wp2_with fail
      go_ret
      exact ⟨ret_bool HB.out.symm, rfl⟩
theorem follow_no (first : Int) (v : Value) (w : World) (h : first < 0 ∨ 4294967295 < first) :
    Calls Tryz.prog 76 #[.int .i64 first, v] w fun e w' => e = .returned (.tuple #[.int .i64 0, .int .i64 0, .int .i64 2]) ∧ Below w.heap.size w w' := by
  rcases h with h | h
  · go_enter Tryz.func76, Tryz.ntmps76
    go_wp2_with fail
    go_ret3
    exact ⟨rfl, Below.refl _ _⟩
  · have h' : 0 ≤ first := by omega
    go_enter Tryz.func76, Tryz.ntmps76
    go_wp2_with fail
    go_ret3
    exact ⟨rfl, Below.refl _ _⟩
end Go.Proofs.YtidekfbgjghcjaaGreat
