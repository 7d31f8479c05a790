/- Walks of extract's Receipt, and of Right at a record's finding (chapter 32). -/
import Derived.Test.YtidekfbgjghcjaaGreatExt1
import Derived.Test.YtidekfbgjghcjaaGreatLoad
namespace Go.Proofs.YtidekfbgjghcjaaGreat
set_option linter.unusedSimpArgs false
set_option linter.unusedVariables false
open Go Go.RowKit
set_option linter.unusedVariables false

theorem results_cell1e {fn : Func} {p : Tmp} {ty : TypeId} {cs : List Value} {d : TypeDesc} (h : fn.results = #[.cell p ty]) (tmps : Array Value) (w : World) {b : Nat} (hb : w.rangeAt b 0 cs) (hp : tmps.getD p undef = .pointer (some ⟨b, 0, none⟩))
    (hu : Tryz.prog.underlying ty = some d) (hd : d.isRow = true) (hi : (Tryz.prog.info? ty).map (·.size) = some cs.length) :
    (results fn tmps).run Tryz.prog w = .ok (.agg cs.toArray) w := by
  have e := run_loadVar_mid (P := Tryz.prog) w b 0 ty cs _ hb hu hd hi
  have e0 : (results fn tmps).run Tryz.prog w = ((asAddr (tmps.getD p undef)).run Tryz.prog w).andThen fun a w₁ => (loadVar ty a).run Tryz.prog w₁ := by
    simp only [results, h]
    simp [Sem.run_bind]
  rw [e0, hp]
  simp only [asAddr, Sem.run_pure, Result.andThen_ok, e]
/-- How Receipt ends. -/
def RcpFEnd (l : List Sld) (below : Int) (x : Rcp) (e : Ending) : Prop :=
  ((forgeS l x = true ∧ x.r.epoch < below) ∧ ∃ s, e = .returned (⟨2, ⟨#[]⟩, ⟨#[]⟩, x.r.epoch, s, x.tag⟩ : Fnd).v ∧ Txt s (saidC x.was.data.toList x.seq x.r)) ∨
  (¬ (forgeS l x = true ∧ x.r.epoch < below) ∧ e = .returned Fnd.zero.v)
set_option maxRecDepth 100000 in
set_option maxHeartbeats 4000000 in
theorem ercp32_walk (v vc vh : Value) (l : List Sld) (below : Int) (x : Rcp) (w : World) (h : SldRow w v l) (hc1 : vc.oneCell' = true) (hh1 : vh.oneCell' = true) (hl : l.length ≤ 1048576) (ht : SldTame l) (hroot : x.r.root.size ≤ 1048576) (hname : x.r.name.size ≤ 1048576) (hf : Fits x.r.epoch) (hs : Fits x.seq) :
    Calls Tryz.prog 27 #[.agg #[v, vc, vh], .int .i64 below, x.v] w fun e w' => RcpFEnd l below x e ∧ Below w.heap.size w w' := by
  obtain ⟨p, c, rfl⟩ := h.shape
  obtain ⟨n, hn⟩ : ∃ n, n = l.length := ⟨_, rfl⟩
  rw [← hn] at h ⊢
  have HR := Lib.hid h
  have HL := Lib.hid hl
  clear h hl hn
  go_enter Tryz.func27, Tryz.ntmps27
  go_wp2_with (first
    | ((with_reducible refine wpList_box_new 56 (.tmp 0) ([.slice p n c, vc, vh]) (some 3) ?hgd ?ho ?hd ?hx ?_); (case hgd => rfl); (case ho => rfl); (case hd => rfl); (case hx => rfl); (intro b3 w3 l3 B3 e3 z3))
    | ((with_reducible refine wpList_box_new 37 (.tmp 2) (x.cells) (some 5) ?hgd ?ho ?hd ?hx ?_); (case hgd => rfl); (case ho => rfl); (case hd => rfl); (case hx => rfl); (intro b5 w5 l5 B5 e5 z5))
    | ((with_reducible refine wpList_alloc_new 58 Fnd.zero.cells zeroFnd (some 6) ?hgd ?ho ?hd ?_); (case hgd => rfl); (case ho => rfl); (case hd => rfl); (intro b6 w6 l6 B6 e6 z6); have X3 := (B3.below e5 (Nat.lt_of_lt_of_le B3.lt l5)).below e6 (Nat.lt_of_lt_of_le (Nat.lt_of_lt_of_le B3.lt l5) (Nat.le_trans (Nat.le_of_lt B5.lt) l6)); have X5 := B5.below e6 (Nat.lt_of_lt_of_le B5.lt l6); have a30 := X3.cell (i := 0) rfl; have HB6 : Below w.heap.size w w6 := ((e3.mono l3).trans (e5.mono (by have := e3.size; omega))).trans (e6.mono (by have := e3.size; have := e5.size; omega)); have f6 : w.heap.size ≤ b6 := (by have := e3.size; have := e5.size; omega))
    | ((with_reducible refine wpList_load_met 37 (.tmp 5) b5 0 (x.cells) _ (some 13) (X5).range Tryz.underlying37 rfl rsizeRcp ?hg ?ho ?hds ?hx ?_); (case ho => rfl); (case hg => rfl); (case hds => rfl); (case hx => rfl))
    | fail)
  have HX6 := Lib.hid X3
  have HY6 := Lib.hid X5
  have HZ6 := Lib.hid B6
  have HFL := Lib.hid f6
  have HB6 := Lib.hid HB6
  clear a30 X3 X5 B3 B5 B6 e3 e5 e6 l3 l5 l6 z3 z5 z6 f6
  refine (forge_walk _ l x _ (HR.out.below HB6.out (Nat.le_refl _)) HL.out ht hroot hname hf hs).mono ?_
  rintro e w7 ⟨he, hb7⟩
  have HX7 := Lib.hid (HX6.out.below hb7 HX6.out.lt)
  have HY7 := Lib.hid (HY6.out.below hb7 HY6.out.lt)
  have HZ7 := Lib.hid (HZ6.out.below hb7 HZ6.out.lt)
  have HB7 := Lib.hid (HB6.out.trans (hb7.mono HB6.out.size))
  clear hb7
  have a1 := HY7.out.cell (i := 2) rfl
  have HWW := Lib.hid (show Below w.heap.size w w7 from HB7.out)
  rcases he with ⟨hfs, s, rfl, ts⟩ | ⟨hfs, rfl⟩
  · have TS := Lib.hid ts
    have HFS := Lib.hid hfs
    clear ts hfs
    by_cases hbl : x.r.epoch < below
    · have HBL := Lib.hid hbl
      have hbl' : ¬ below ≤ x.r.epoch := by omega
      clear hbl
      go_wp2_with (first
        | ((with_reducible refine wpList_build_eq 58 ?parts ((⟨2, ⟨#[]⟩, ⟨#[]⟩, x.r.epoch, s, x.tag⟩ : Fnd).cells) ?hg ?ho ?hf ?_); (case hg => rfl); (case ho => rfl); (case hf => kernel_rfl))
        | ((with_reducible refine wpList_store_new 58 (.tmp 6) (.tmp 33) b6 Fnd.zero.cells ((⟨2, ⟨#[]⟩, ⟨#[]⟩, x.r.epoch, s, x.tag⟩ : Fnd).cells) 58 HZ7.out rfl sizeFnd (Fnd.cells_one _) ?hgd ?ho ?hx ?hy ?_); (case hgd => rfl); (case ho => rfl); (case hx => rfl); (case hy => rfl); (intro w9 B9 o9))
        | fail)
      (try simp only [Exit.inBlock, Exit.then])
      refine bodyPost_ret (results_cell1e rfl _ _ B9.range rfl Tryz.underlying58 rfl sizeFnd) rfl ⟨.inl ⟨⟨HFS.out, HBL.out⟩, s, rfl, TS.out⟩, o9.below HB7.out HFL.out⟩
    · have HNO := Lib.hid (show ¬ (forgeS l x = true ∧ x.r.epoch < below) from fun h => hbl h.2)
      have hbl' : below ≤ x.r.epoch := by omega
      clear hbl
      go_wp2_with (first
        | ((with_reducible refine wpList_build_eq 58 ?parts (Fnd.zero.cells) ?hg ?ho ?hf ?_); (case hg => rfl); (case ho => rfl); (case hf => kernel_rfl))
        | ((with_reducible refine wpList_store_new 58 (.tmp 6) (.tmp 27) b6 Fnd.zero.cells (Fnd.zero.cells) 58 HZ7.out rfl sizeFnd (Fnd.cells_one _) ?hgd ?ho ?hx ?hy ?_); (case hgd => rfl); (case ho => rfl); (case hx => rfl); (case hy => rfl); (intro w9 B9 o9))
        | fail)
      (try simp only [Exit.inBlock, Exit.then])
      refine bodyPost_ret (results_cell1e rfl _ _ B9.range rfl Tryz.underlying58 rfl sizeFnd) rfl ⟨.inr ⟨HNO.out, rfl⟩, o9.below HB7.out HFL.out⟩
  · have HNO := Lib.hid (show ¬ (forgeS l x = true ∧ x.r.epoch < below) from fun h => by rw [hfs] at h; simp at h)
    clear hfs
    go_wp2_with (first
      | ((with_reducible refine wpList_build_eq 58 ?parts (Fnd.zero.cells) ?hg ?ho ?hf ?_); (case hg => rfl); (case ho => rfl); (case hf => kernel_rfl))
      | ((with_reducible refine wpList_store_new 58 (.tmp 6) (.tmp 27) b6 Fnd.zero.cells (Fnd.zero.cells) 58 HZ7.out rfl sizeFnd (Fnd.cells_one _) ?hgd ?ho ?hx ?hy ?_); (case hgd => rfl); (case ho => rfl); (case hx => rfl); (case hy => rfl); (intro w9 B9 o9))
      | fail)
    (try simp only [Exit.inBlock, Exit.then])
    refine bodyPost_ret (results_cell1e rfl _ _ B9.range rfl Tryz.underlying58 rfl sizeFnd) rfl ⟨.inr ⟨HNO.out, rfl⟩, o9.below HB7.out HFL.out⟩

/-- How Right ends at a record's finding. -/
def RightTwo (root : ByteArray) (first : Int) (l : List Sld) (below epoch : Int) (fa fb fm ft : ByteArray) (e : Ending) : Prop :=
  ∃ q : Bool, e = .returned (.bool q) ∧ (q = true ↔ epoch < below ∧ taggedS root first ⟨2, fa, fb, epoch, fm, ft⟩ [109, 97, 99] = true ∧ ¬ ∃ k, MadeAt l fm.data.toList k)
set_option maxRecDepth 100000 in
set_option maxHeartbeats 4000000 in
theorem right32_two (root : ByteArray) (first : Int) (v vc vh : Value) (l : List Sld) (below : Int) (epoch : Int) (fa fb fm ft : ByteArray) (w : World) (h : SldRow w v l) (hc1 : vc.oneCell' = true) (hh1 : vh.oneCell' = true) (hl : l.length ≤ 1048576) (ht : SldTame l) (hm : fm.size ≤ 16777216) :
    Calls Tryz.prog 22 #[.string root, .int .i64 first, .agg #[v, vc, vh], .int .i64 below, (⟨2, fa, fb, epoch, fm, ft⟩ : Fnd).v] w fun e w' => RightTwo root first l below epoch fa fb fm ft e ∧ Below w.heap.size w w' := by
  obtain ⟨p, c, rfl⟩ := h.shape
  obtain ⟨n, hn⟩ : ∃ n, n = l.length := ⟨_, rfl⟩
  rw [← hn] at h ⊢
  have HR := Lib.hid h
  have HL := Lib.hid hl
  clear h hl hn
  obtain ⟨q, hq⟩ : ∃ q, taggedS root first ⟨2, fa, fb, epoch, fm, ft⟩ [109, 97, 99] = q := ⟨_, rfl⟩
  have HQ := Lib.hid hq
  clear hq
  go_enter Tryz.func22, Tryz.ntmps22
  by_cases hbl : epoch < below
  rotate_left
  · have HBL := Lib.hid hbl
    have hbl' : below ≤ epoch := by omega
    clear hbl
    go_wp2_with (first
      | ((with_reducible refine wpList_box_new 56 (.tmp 2) ([.slice p n c, vc, vh]) (some 7) ?hgd ?ho ?hd ?hx ?_); (case hgd => rfl); (case ho => rfl); (case hd => rfl); (case hx => rfl); (intro b3 w3 l3 B3 e3 z3))
      | ((with_reducible refine wpList_box_new 58 (.tmp 4) ((⟨2, fa, fb, epoch, fm, ft⟩ : Fnd).cells) (some 9) ?hgd ?ho ?hd ?hx ?_); (case hgd => rfl); (case ho => rfl); (case hd => rfl); (case hx => rfl); (intro b5 w5 l5 B5 e5 z5); have c0 := B5.cell (i := 0) rfl; have c3 := B5.cell (i := 3) rfl)
      | fail)
    go_ret
    exact ⟨⟨false, rfl, ⟨fun h => (by cases h), fun h => (by have h1 := h.1; have h2 := HBL.out; omega)⟩⟩, (e3.mono l3).trans (e5.mono (by have := e3.size; omega))⟩
  have HBL := Lib.hid hbl
  have hbl' : epoch < below := hbl
  clear hbl
  go_wp2_with (first
    | ((with_reducible refine wpList_box_new 56 (.tmp 2) ([.slice p n c, vc, vh]) (some 7) ?hgd ?ho ?hd ?hx ?_); (case hgd => rfl); (case ho => rfl); (case hd => rfl); (case hx => rfl); (intro b3 w3 l3 B3 e3 z3))
    | ((with_reducible refine wpList_box_new 58 (.tmp 4) ((⟨2, fa, fb, epoch, fm, ft⟩ : Fnd).cells) (some 9) ?hgd ?ho ?hd ?hx ?_); (case hgd => rfl); (case ho => rfl); (case hd => rfl); (case hx => rfl); (intro b5 w5 l5 B5 e5 z5); have c0 := B5.cell (i := 0) rfl; have c3 := B5.cell (i := 3) rfl)
    | ((with_reducible refine wpList_load_met 58 (.tmp 9) b5 0 ((⟨2, fa, fb, epoch, fm, ft⟩ : Fnd).cells) _ (some 40) (B5).range Tryz.underlying58 rfl sizeFnd ?hg ?ho ?hds ?hx ?_); (case ho => rfl); (case hg => rfl); (case hds => rfl); (case hx => rfl))
    | fail)
  have HX5 := Lib.hid (B3.below e5 (Nat.lt_of_lt_of_le B3.lt l5))
  have HY5 := Lib.hid B5
  have HB5 := Lib.hid (show Below w.heap.size w w5 from (e3.mono l3).trans (e5.mono (by have := e3.size; omega)))
  clear c0 c3 B3 B5 e3 e5 l3 l5 z3 z5
  refine (tagged32_mac root first ⟨2, fa, fb, epoch, fm, ft⟩ _ hm).mono ?_
  rintro e w6 ⟨he, hb6⟩
  rw [HQ.out] at he
  subst he
  have HX6 := Lib.hid (HX5.out.below hb6 HX5.out.lt)
  have HY6 := Lib.hid (HY5.out.below hb6 HY5.out.lt)
  have HB6 := Lib.hid (HB5.out.trans (hb6.mono HB5.out.size))
  clear hb6
  cases q with
  | false =>
    go_wp2_with fail
    go_ret
    exact ⟨⟨false, rfl, ⟨fun h => (by cases h), fun h => (by have := h.2.1; rw [HQ.out] at this; cases this)⟩⟩, HB6.out⟩
  | true =>
    have c0 := HX6.out.cell (i := 0) rfl
    have c4 := HY6.out.cell (i := 4) rfl
    go_wp2_with fail
    refine (made32_walk _ l fm _ (HR.out.below HB6.out (Nat.le_refl _)) HL.out ht).mono ?_
    rintro e w7 ⟨⟨qm, rfl, hqm⟩, hb7⟩
    have HQM := Lib.hid hqm
    have HB7 := Lib.hid (HB6.out.trans (hb7.mono HB6.out.size))
    clear hb7 hqm c0 c4
    cases qm with
    | false =>
      go_wp2_with fail
      go_ret
      exact ⟨⟨true, rfl, ⟨fun _ => ⟨HBL.out, HQ.out, fun h => by have := HQM.out.2 h; cases this⟩, fun _ => rfl⟩⟩, HB7.out⟩
    | true =>
      go_wp2_with fail
      go_ret
      exact ⟨⟨false, rfl, ⟨fun h => (by cases h), fun h => absurd (HQM.out.1 (by trivial)) h.2.2⟩⟩, HB7.out⟩
end Go.Proofs.YtidekfbgjghcjaaGreat
