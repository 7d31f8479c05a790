/- Walks of a segment of one cell, and of its leaves (chapters 12, 16, 17). -/
import Derived.Test.YtidekfbgjghcjaaGreatG7
import Derived.Test.YtidekfbgjghcjaaGreatG3
import Derived.Test.YtidekfbgjghcjaaGreatG1
import Derived.Maps.OwnSet
import Derived.Maps.OwnOps
import Derived.Maps.StringElems
import Derived.Carry
import Derived.Deep.DeepAppendWide
import Derived.OneCell
import Derived.WalkSpells
namespace Go.Proofs.YtidekfbgjghcjaaGreat
set_option linter.unusedSimpArgs false
set_option linter.unusedVariables false
open Go Go.RowKit Go.Maps Go.WideMaps

theorem keyedInt17 : Keyed Tryz.prog 3 := int_keyed Tryz.underlying3
theorem zeroStr17 (w : World) : (zeroValue 9).run Tryz.prog w = .ok (.string ByteArray.empty) w := by kernel_rfl
theorem keyInt17 {k : Nat} (hk : k ≤ 8388608) : keyOf Tryz.prog 3 (.int .i64 (k : Int)) = some (.int .i64 (k : Int)) := keyOf_int_mk Tryz.underlying3 (WalkArith.wf_i64 (by omega))
theorem infoInt17 : (Tryz.prog.info? 3).map (fun i => (i.zero, i.size, i.bytes)) = some (some (.int .i64 0), 1, 8) := by kernel_rfl
theorem infoLeaf17 : (Tryz.prog.info? 29).map (fun i => (i.zero, i.size, i.bytes)) = some (some (.agg #[.int .i64 0, .string ByteArray.empty]), 2, 24) := by kernel_rfl
theorem packOk17 : PackOk [4, 4] [1, 2] := ⟨rfl, fun i a x ha hx => by
  rcases i with _ | _ | i
  · simp at ha hx; subst ha hx; decide
  · simp at ha hx; subst ha hx; decide
  · simp at ha⟩
theorem mapNe17 (B : Nat) (w : World) : (binOp .neq 236 (.map (some B)) (.map none)).run Tryz.prog w = .ok (.bool true) w := run_neq_map_nil w 236 3 9 (some B) Tryz.underlying236
set_option maxRecDepth 100000 in
set_option maxHeartbeats 1000000 in
theorem data16_walk (w : World) :
    Calls Tryz.prog 168 #[.int .i64 1, .int .i64 2, .string ⟨#[120]⟩] w fun e w' => (∃ r, e = .returned (.tuple #[.string r, .int .i64 0]) ∧ r.size = 32) ∧ Below w.heap.size w w' := by
  go_enter Tryz.func168, Tryz.ntmps168
  go_wp2_with (first
    | ((with_reducible refine wpList_slice_new 78 3 2 ?parts [.int .i64 4, .int .i64 4] (.int .i64 0) 1 8 (some 11) Tryz.underlying78 infoInt17 (by omega) (by omega) ?hgd ?ho ?hd ?hf ?_); (case hgd | ho | hd => rfl); (case hf => kernel_rfl); (intro g1 w1 l1 B1 e1 z1))
    | fail)
  obtain ⟨w2, hw2⟩ : ∃ w2, w2 = w1.alloc (Obj.cells #[Value.int IntKind.i64 1, Value.int IntKind.i64 2] 3) := ⟨_, rfl⟩
  have B2 : Blk w2 w1.heap.size [.int .i64 1, .int .i64 2] 3 := by rw [hw2]; exact Blk.new w1 _ _
  have e2 : Below w1.heap.size w1 w2 := by rw [hw2]; exact (Below.refl _ _).alloc (Nat.le_refl _) _
  have l2 : w1.heap.size ≤ w1.heap.size := Nat.le_refl _
  rw [← hw2]
  clear hw2
  have HB2 := Lib.hid (show Below w.heap.size w w2 from (e1.mono l1).trans (e2.mono (by have := e1.size; omega)))
  refine (opack_walk _ _ [4, 4] [1, 2] _ (IntRow.blk (xs := [4, 4]) (B1.below e2 (Nat.lt_of_lt_of_le B1.lt l2)) rfl 2) (IntRow.blk (xs := [1, 2]) B2 rfl 2) (by decide) (by decide) packOk17).mono ?_
  rintro e w3 ⟨r, rfl, tr, hb3⟩
  have hr : r.size = 8 := by rw [tr.size]; rfl
  have HB3 := Lib.hid (HB2.out.trans (hb3.mono HB2.out.size))
  clear B1 B2 e1 e2 l1 l2 z1 hb3 tr
  go_wp2_with fail
  refine (sum_two r ⟨#[120]⟩ _ _ (by rw [hr]; decide)).mono ?_
  rintro e w4 ⟨t, rfl, tt, hb4⟩
  have ht : t.size = 32 := by rw [tt.size, sha_length]
  have HB4 := Lib.hid (HB3.out.trans (hb4.mono HB3.out.size))
  clear tt hb4
  go_wp2_with fail
  go_ret2
  exact ⟨⟨t, rfl, ht⟩, HB4.out⟩

structure SegAt (w : World) (ps B n : Nat) (D : DataW Unit) : Prop where
  blk : Blk w ps [.int .i64 1, .map (some B)] 238
  map : w.ownsMap Tryz.prog 3 (plainElem Tryz.prog 9) B n D
theorem SegAt.below {w w' : World} {ps B n : Nat} {D : DataW Unit} (h : SegAt w ps B n D) (hb : Below w.heap.size w w') : SegAt w' ps B n D :=
  ⟨h.blk.below hb h.blk.lt, h.map.kept (below_grown hb) (by simp)⟩

set_option maxRecDepth 100000 in
set_option maxHeartbeats 1000000 in
theorem segNew_walk (w : World) :
    Calls Tryz.prog 115 #[.int .i64 1] w fun e w' => (∃ ps B, e = .returned (.tuple #[.pointer (some ⟨ps, 0, none⟩), .int .i64 0]) ∧ SegAt w' ps B 0 (.map []) ∧ w.heap.size ≤ B ∧ B < ps) ∧ Below w.heap.size w w' := by
  have hmm := @run_makeMap Tryz.prog
  go_enter Tryz.func115, Tryz.ntmps115
  go_wp2_with (first
    | ((with_reducible refine wpList_box_new 238 (.tmp 12) ([.int .i64 1, .map (some w.heap.size)]) (some 13) ?hgd ?ho ?hd ?hx ?_); (case hgd | ho | hd | hx => rfl); (intro b3 w3 l3 B3 e3 z3))
    | fail)
  have hgt : w.heap.size < b3 := by simp at l3; omega
  have own0 : w3.ownsMap Tryz.prog 3 (plainElem (H := Unit) Tryz.prog 9) w.heap.size 0 (.map []) :=
    (World.ownsMap_made w Tryz.prog 3 _).kept (below_grown (e3.mono l3)) (by simp)
  go_ret2
  exact ⟨⟨b3, w.heap.size, rfl, ⟨B3, own0⟩, Nat.le_refl _, hgt⟩, ((Below.refl _ _).alloc (Nat.le_refl _) _).trans (e3.mono (by omega))⟩

set_option maxRecDepth 100000 in
set_option maxHeartbeats 1000000 in
theorem segThere_walk (ps B n : Nat) (D : DataW Unit) (w : World) (h : SegAt w ps B n D) :
    Calls Tryz.prog 167 #[.pointer (some ⟨ps, 0, none⟩)] w fun e w' => e = .returned (.bool true) ∧ w = w' := by
  have c1 := h.blk.cell (i := 1) rfl
  have hnn := mapNe17 B
  go_enter Tryz.func167, Tryz.ntmps167
  go_wp2_with fail
  go_ret
  exact ⟨rfl, rfl⟩

set_option maxRecDepth 100000 in
set_option maxHeartbeats 1000000 in
theorem segPut_walk (ps B : Nat) (W0 w : World) (h : SegAt w ps B 0 (.map [])) (hb : Below W0.heap.size W0 w) (hB : W0.heap.size ≤ B) (hne : B < ps) :
    Calls Tryz.prog 117 #[.pointer (some ⟨ps, 0, none⟩), .int .i64 3, .int .i64 2, .string ⟨#[120]⟩] w fun e w' => (∃ r : ByteArray, e = .returned (.int .i64 0) ∧ r.size = 32 ∧ SegAt w' ps B 1 ((DataW.map [] : DataW Unit).put (.int .i64 3) (.lit (.string r.data.toList)))) ∧ Below W0.heap.size W0 w' := by
  have HS := Lib.hid h
  have HB := Lib.hid hb
  clear h hb
  go_enter Tryz.func117, Tryz.ntmps117
  go_wp2_with fail
  refine (segThere_walk ps B 0 _ _ HS.out).mono ?_
  rintro e w1 ⟨rfl, rfl⟩
  have c0 := HS.out.blk.cell (i := 0) rfl
  have c1 := HS.out.blk.cell (i := 1) rfl
  go_wp2_with fail
  clear c0 c1
  refine (data16_walk _).mono ?_
  rintro e w2 ⟨⟨r, rfl, hr⟩, hb2⟩
  have HS2 := Lib.hid (HS.out.below hb2)
  have HB2 := Lib.hid (HB.out.trans (hb2.mono HB.out.size))
  have c1 := HS2.out.blk.cell (i := 1) rfl
  have hkey := keyInt17 (k := 3) (by omega)
  clear hb2
  go_wp2_with (first
    | (at_mapUpdate; refine wpList_mapUpdate_own _ rfl _ _ _ 236 rfl 3 9 keyedInt17 Tryz.underlying236 _ B 0 (.map []) rfl HS2.out.map (by unfold maxLen; omega) _ _ _ rfl rfl hkey _ [] (plainElem_string Tryz.underlying9 (by rw [hr]; unfold maxLen; omega)) ?_; intro w6 own6 grow6)
    | fail)
  have P6 := HS2.out.blk.grown grow6 (by intro h; injection h; omega)
  go_ret
  exact ⟨⟨r, rfl, hr, ⟨P6, own6⟩⟩, below_some HB2.out grow6 hB HB2.out.size⟩

theorem wpList_lookup_own_ok_str {P : Program} (w : World) {ops : Array Oper} {rest : List Oper} {o : Oper} {a : Act} {Q : Exit → Act → World → Prop} (hg : o.guard = none) (m x : Operand) (t : TypeId) (hop : o.op = Op.lookup t m x true)
    (k e : TypeId) (K : Keyed P k) (ht : P.underlying t = some (.map k e)) (he : P.underlying e = some .string) (hz : (zeroValue e).run P w = .ok (.string ByteArray.empty) w) (b n : Nat) (D : DataW Unit)
    (hm : a.eval m = .map (some b)) (hown : w.ownsMap P k (plainElem P e) b n D) (key : Value) (kl : Lit) (hx : a.eval x = key) (hkey : keyOf P k key = some kl)
    (hK : ∀ s : ByteArray, wpList P ops Q rest (a.put o.dst (.tuple #[.string s, .bool (Maps.has D kl)])) w) :
    wpList P ops Q (o :: rest) a w :=
  wpList_lookup_own_ok w hg m x t hop k e K ht (plainElem P e) hz (.lit (.string ByteArray.empty.data.toList)) [] (plainElem_string he (by show 0 ≤ _; omega)) b n D hm hown key kl hx hkey (fun v ps hv => by
    obtain ⟨s, rfl, _⟩ := plainElem_string_inv he hv
    exact hK s)
structure HasThree (D : DataW Unit) : Prop where
  yes : Maps.has D (.int .i64 3) = true
  no : ∀ k : Nat, k ≠ 3 → Maps.has D (.int .i64 (k : Int)) = false
theorem hasThree_put (d : DataW Unit) (hD : IsMap (DataW.map [] : DataW Unit)) : HasThree ((DataW.map [] : DataW Unit).put (.int .i64 3) d) :=
  ⟨has_put_same hD (show WideAt.IsKeyLit (.int .i64 3) from trivial) _, fun k hk => by
    have hne : (Lit.int .i64 (k : Int)) ≠ .int .i64 3 := by intro e; injection e with _ e; omega
    rw [has_put_other hne]; rfl⟩
set_option maxRecDepth 100000 in
set_option maxHeartbeats 2000000 in
theorem segLeaves_walk (ps B n : Nat) (D : DataW Unit) (w : World) (h : SegAt w ps B n D) (h3 : HasThree D) :
    Calls Tryz.prog 118 #[.pointer (some ⟨ps, 0, none⟩)] w fun e w' => (∃ g cap, e = .returned (.slice (some ⟨g, 0, none⟩) 1 cap) ∧ w'.cell? ⟨g, 0, none⟩ = some (.int .i64 3)) ∧ Below w.heap.size w w' := by
  have HS := Lib.hid h
  have H3 := Lib.hid h3
  clear h h3
  obtain ⟨i0, hi, hz0, hz1, hz2⟩ := info_parts infoLeaf17
  go_enter Tryz.func118, Tryz.ntmps118
  go_wp2_with fail
  refine (segThere_walk ps B n _ _ HS.out).mono ?_
  rintro e w1 ⟨rfl, rfl⟩
  go_wp2_with fail
  go_loopw [3, 10] (fun vo i wr => ∃ k : Nat, k ≤ 4096 ∧ i = .int .i64 k ∧ ((k ≤ 3 ∧ vo = .slice none 0 0) ∨ (3 < k ∧ ∃ s, wr.ownsRow w.heap.size 29 2 vo 1 [.int .i64 3, .string s])) ∧ Below w.heap.size w wr) (fun _ i _ => 4096 - (intOf i).toNat)
  case atStart => exact ⟨0, by omega, rfl, .inl ⟨by omega, rfl⟩, Below.refl _ _⟩
  case round =>
    obtain ⟨k, hk, rfl, hvo, hbel⟩ := hrel
    have HV := Lib.hid hvo
    have HB := Lib.hid hbel
    have HSR := Lib.hid (HS.out.below hbel)
    clear hvo hbel
    by_cases hlt : k < 4096
    · have hlt' : (k : Int) < 4096 := by omega
      have c1 := HSR.out.blk.cell (i := 1) rfl
      have hkey := keyInt17 (k := k) (by omega)
      by_cases hk3 : k = 3
      · subst hk3
        obtain ⟨_, rfl⟩ | ⟨h, _⟩ := HV.out
        rotate_left
        · omega
        have hhas : Maps.has D (.int .i64 3) = true := H3.out.yes
        have hkey3 : keyOf Tryz.prog 3 (.int .i64 3) = some (.int .i64 3) := hkey
        clear hkey
        go_wp2_with (first
          | (at_lookup; refine wpList_lookup_own_ok_str _ rfl _ _ 236 rfl 3 9 keyedInt17 Tryz.underlying236 Tryz.underlying9 (zeroStr17 _) B n D rfl HSR.out.map _ _ rfl hkey3 ?_; intro s)
          | ((with_reducible refine wpList_slice_new 127 29 1 ?parts [.int .i64 3, .string s] (.agg #[.int .i64 0, .string ByteArray.empty]) 2 24 (some 27) Tryz.underlying127 infoLeaf17 (by omega) (by omega) ?hgd ?ho ?hd ?hf ?_); (case hgd | ho | hd => rfl); (case hf => kernel_rfl); (intro g7 w7 l7 B7 e7 z7); (have hb7 := HB.out.trans (e7.mono (Nat.le_trans HB.out.size l7))))
          | (at_builtin; refine wpList_append_own_wide _ rfl _ _ 127 rfl w.heap.size 29 i0 (.agg #[.int .i64 0, .string ByteArray.empty]) 2 24 Tryz.underlying127 hi hz0 hz1 hz2 rfl (by decide) (.slice none 0 0) 0 [] rfl (World.ownsRow_nil _ _ _ _) ⟨g7, 0, none⟩ 1 1 [.int .i64 3, .string s] rfl rfl (cells_add B7) (by intro v hv; simp at hv; rcases hv with rfl | rfl <;> rfl) (by unfold maxLen; omega) (by omega) hb7.size ?_; intro v' w8 own8 grow8 nil8)
          | fail)
        go_roundw
        case rel => exact ⟨4, by omega, by go_num, .inr ⟨by omega, s, own8⟩, below_own hb7 (World.ownsRow_nil w7 w.heap.size 29 2) grow8 (Nat.le_refl _) hb7.size⟩
        case measure => simp [intOf]
      · have hhas : Maps.has D (.int .i64 (k : Int)) = false := H3.out.no k hk3
        go_wp2_with (first
          | (at_lookup; refine wpList_lookup_own_ok_str _ rfl _ _ 236 rfl 3 9 keyedInt17 Tryz.underlying236 Tryz.underlying9 (zeroStr17 _) B n D rfl HSR.out.map _ _ rfl hkey ?_; intro s)
          | fail)
        go_roundw
        case rel =>
          refine ⟨k + 1, by omega, by go_num, ?_, HB.out⟩
          rcases HV.out with ⟨h1, h2⟩ | ⟨h1, h2⟩
          · exact .inl ⟨by omega, h2⟩
          · exact .inr ⟨by omega, h2⟩
        case measure => simp [intOf]; omega
    · obtain rfl : k = 4096 := by omega
      go_wp2_with fail
      go_ret
      rcases HV.out with ⟨h1, _⟩ | ⟨_, s, hown⟩
      · omega
      obtain ⟨g, cap, z, rfl, _, _, hk⟩ := own_split hown (by omega)
      exact ⟨⟨g, cap, rfl, hk.cell (i := 0) rfl⟩, HB.out⟩

set_option maxRecDepth 100000 in
theorem cellMay_walk (n m : Int) (w : World) (h : 0 ≤ n) (h1 : n ≤ m) :
    Calls Tryz.prog 166 #[.int .i64 n, .int .i64 m] w fun e w' => e = .returned (.bool true) ∧ w = w' := by
  go_enter Tryz.func166, Tryz.ntmps166
  go_wp2_with fail
  go_ret
  exact ⟨rfl, rfl⟩
set_option maxRecDepth 100000 in
set_option maxHeartbeats 1000000 in
theorem cellCheck_walk (w : World) :
    Calls Tryz.prog 116 #[.agg #[.int .i64 1, .int .i64 2, .int .i64 3, .bool false, .string ⟨#[120]⟩]] w fun e w' => e = .returned (.int .i64 0) ∧ Below w.heap.size w w' := by
  go_enter Tryz.func116, Tryz.ntmps116
  go_wp2_with (first
    | ((with_reducible refine wpList_box_new 130 (.tmp 0) ([.int .i64 1, .int .i64 2, .int .i64 3, .bool false, .string ⟨#[120]⟩]) (some 1) ?hgd ?ho ?hd ?hx ?_); (case hgd | ho | hd | hx => rfl); (intro b1 w1 l1 B1 e1 z1); have c0 := B1.cell (i := 0) rfl; have c1 := B1.cell (i := 1) rfl; have c2 := B1.cell (i := 2) rfl; have c3 := B1.cell (i := 3) rfl; have c4 := B1.cell (i := 4) rfl)
    | fail)
  refine (cellMay_walk 1 4294967295 _ (by omega) (by omega)).mono ?_
  rintro e w2 ⟨rfl, rfl⟩
  go_wp2_with fail
  refine (cellMay_walk 2 4294967295 _ (by omega) (by omega)).mono ?_
  rintro e w2 ⟨rfl, rfl⟩
  go_wp2_with fail
  refine (cellMay_walk 3 4095 _ (by omega) (by omega)).mono ?_
  rintro e w2 ⟨rfl, rfl⟩
  go_wp2_with fail
  go_ret
  exact ⟨rfl, e1.mono l1⟩
end Go.Proofs.YtidekfbgjghcjaaGreat

