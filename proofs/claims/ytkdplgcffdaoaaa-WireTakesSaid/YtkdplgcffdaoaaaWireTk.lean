/- Walk of wire.Take (chapter 27): the message of bytes. -/
import Derived.Test.YtkdplgcffdaoaaaWireRd
import Derived.Test.YtkdplgcffdaoaaaWireT
import Derived.Test.YtkdplgcffdaoaaaG14
namespace Go.Proofs.Ytkdplgcffdaoaaa
set_option linter.unusedSimpArgs false
set_option linter.unusedVariables false
open Go Go.RowKit
set_option linter.unusedVariables false

theorem results_cm {fn : Func} {p q : Tmp} (h : fn.results = #[.cell p 39, .tmp q]) (tmps : Array Value) (w : World) {bm : Nat} {cs : List Value} (hM : Blk w bm cs 39)
    (hl : some 41 = some cs.length) (hp : tmps.getD p undef = .pointer (some ⟨bm, 0, none⟩)) :
    (results fn tmps).run Try.prog w = .ok (.tuple #[.agg cs.toArray, tmps.getD q undef]) w := by
  have hi : (Try.prog.info? 39).map (·.size) = some cs.length := by rw [← hl]; kernel_rfl
  have e := run_loadVar_mid (P := Try.prog) w bm 0 39 cs _ hM.range Try.underlying39 rfl hi
  rw [results_cell_tmp h, hp]
  simp only [asAddr, Sem.run_pure, Result.andThen_ok, e]
/-- Is a message that of these bytes? -/
def TakenAs (s : List UInt8) (m : MsgD) : Prop := readF s = some (m, []) ∧ msgOk m = true ∧ msgPut m = s
/-- How Take ends. -/
def TakeEnd (s : List UInt8) (e : Ending) (w' : World) : Prop :=
  (∃ m u l, TakenAs s m ∧ e = .returned (.tuple #[m.v u l, .int .i64 0]) ∧ PRow w' u m.told.up ∧ PRow w' l m.told.left) ∨
  ((∀ m, ¬ TakenAs s m) ∧ e = .returned (.tuple #[MsgD.zero.v (.slice none 0 0) (.slice none 0 0), .int .i64 3]))
set_option maxRecDepth 100000 in
set_option maxHeartbeats 8000000 in
theorem take27_walk (s : ByteArray) (w : World) (hs : s.size ≤ 1000000) :
    Calls Try.prog 12 #[.string s] w fun e w' => TakeEnd s.data.toList e w' ∧ Below w.heap.size w w' := by
  go_enter Try.func12, Try.ntmps12
  go_wp2_with (first | ((with_reducible refine wpList_alloc_new 39 mzero zeroMsgB (some 2) ?hgd ?ho ?hd ?_); (case hgd => rfl); (case ho => rfl); (case hd => rfl); (intro b1 w1 l1 B1 e1 z1)) | fail)
  refine (read_walk [b1] s _ hs (fun x hx => by rw [List.mem_singleton.1 hx]; exact B1.lt)).mono ?_
  rintro e w2 ⟨hr, hb2⟩
  have R2 := B1.below hb2 B1.lt
  have HB2 := Lib.hid (show Below w.heap.size w w2 from (e1.mono l1).trans (hb2.mono (by have := e1.size; omega)))
  have f1 : w.heap.size ≤ b1 := l1
  clear e1 l1 z1 B1 hb2
  rcases hr with ⟨m, u, l, hrd, rfl, hu, hl⟩ | ⟨cs, hno, rfl, hcs, hone⟩
  · have HRD := Lib.hid hrd
    have HT := Lib.hid (readF_tame hrd)
    have hsu := hu.shape
    have hsl := hl.shape
    have one6 : ∀ v ∈ m.cells u l, v.oneCell' = true := mcells_one hsu hsl
    have HU := Lib.hid (And.intro hu hl)
    clear hrd hu hl hsu hsl
    go_upto_region 2 with (first
      | ((with_reducible refine wpList_alloc_new 39 mzero zeroMsgB (some 4) ?hgd ?ho ?hd ?_); (case hgd => rfl); (case ho => rfl); (case hd => rfl); (intro b3 w3 l3 B3 e3 z3); have R3 := R2.below e3 (Nat.lt_of_lt_of_le R2.lt l3); have hne : b1 ≠ b3 := (by have := R2.lt; omega); have f3 : w.heap.size ≤ b3 := Nat.le_trans HB2.out.size l3)
      | ((with_reducible refine wpList_store_new 39 (.tmp 4) (.tmp 9) b3 mzero (m.cells u l) 39 B3 rfl sizeMsg one6 ?hgd ?ho ?hx ?hy ?_); (case hgd => rfl); (case ho => rfl); (case hx => rfl); (case hy => rfl); (intro w4 B4 o4))
      | fail)
    have R4 := o4.blk R3 hne
    have HB4 := Lib.hid (o4.below (HB2.out.trans (e3.mono f3)) f3)
    have hb24 : Below w2.heap.size w2 w4 := o4.below (e3.mono l3) l3
    have PV := Lib.hid (show PathIn [b1] w4 u m.told.up ∧ PathIn [b1] w4 l m.told.left from ⟨HU.out.1.turned (Turned.of_below hb24 (Nat.le_refl _)), HU.out.2.turned (Turned.of_below hb24 (Nat.le_refl _))⟩)
    have PU := Lib.hid (show PRow w4 u m.told.up ∧ PRow w4 l m.told.left from ⟨PV.out.1.sub (fun x hx => (List.not_mem_nil hx).elim), PV.out.2.sub (fun x hx => (List.not_mem_nil hx).elim)⟩)
    clear HU R2 R3 B3 o4 e3 l3 z3 HB2 hb24
    cases hok : msgOk m with
    | false =>
      have HNO := Lib.hid (show ∀ m', ¬ TakenAs s.data.toList m' from fun m' h => by
        have h1 := h.1
        rw [HRD.out] at h1
        injection h1 with h1
        injection h1 with h1 _
        have h2 := h.2.1
        rw [← h1, hok] at h2
        cases h2)
      have HC := Lib.hid (chkM_no hok)
      clear hok
      go_wp2_with (first
        | ((with_reducible refine wpList_load_met 39 (.tmp 4) b3 0 (m.cells u l) _ (some 14) (B4).range Try.underlying39 rfl sizeMsg ?hg ?ho ?hds ?hx ?_); (case ho => rfl); (case hg => rfl); (case hds => rfl); (case hx => rfl))
        | (go_at_call 19; refine (check27_walk m u l _ PU.out.1 PU.out.2 HT.out).mono ?_; rintro e w5 ⟨he, hb5⟩; rw [HC.out] at he; subst he; have R := R4.below hb5 R4.lt; have HB5 := Lib.hid (HB4.out.trans (hb5.mono HB4.out.size)))
        | ((with_reducible refine wpList_build_eq 39 ?parts mzero ?hg ?ho ?hf ?_); (case hg => rfl); (case ho => rfl); (case hf => kernel_rfl))
        | ((with_reducible refine wpList_store_new 39 (.tmp 2) (.tmp 24) b1 mzero mzero 39 R rfl rsizeM0 mzero_one ?hgd ?ho ?hx ?hy ?_); (case hgd => rfl); (case ho => rfl); (case hx => rfl); (case hy => rfl); (intro w9 B9 o9))
        | fail)
      (try simp only [Exit.inBlock, Exit.then])
      refine bodyPost_ret (results_cm rfl _ _ B9 rfl rfl) rfl ⟨.inr ⟨HNO.out, rfl⟩, o9.below HB5.out f1⟩
    | true =>
      have HC := Lib.hid (chkM_yes hok)
      have HOK := Lib.hid hok
      clear hok
      go_upto_if 23 with (first
        | ((with_reducible refine wpList_load_met 39 (.tmp 4) b3 0 (m.cells u l) _ (some 14) (B4).range Try.underlying39 rfl sizeMsg ?hg ?ho ?hds ?hx ?_); (case ho => rfl); (case hg => rfl); (case hds => rfl); (case hx => rfl))
        | (go_at_call 19; refine (check27_walk m u l _ PU.out.1 PU.out.2 HT.out).mono ?_; rintro e w5 ⟨he, hb5⟩; rw [HC.out] at he; subst he; have R := R4.below hb5 R4.lt; have B5 := B4.below hb5 B4.lt; have HB5 := Lib.hid (HB4.out.trans (hb5.mono HB4.out.size)); have PU5 := Lib.hid (show PRow w5 u m.told.up ∧ PRow w5 l m.told.left from ⟨PU.out.1.below hb5 (Nat.le_refl _), PU.out.2.below hb5 (Nat.le_refl _)⟩); have PV5 := Lib.hid (show PathIn [b1] w5 u m.told.up ∧ PathIn [b1] w5 l m.told.left from ⟨PV.out.1.turned (Turned.of_below hb5 (Nat.le_refl _)), PV.out.2.turned (Turned.of_below hb5 (Nat.le_refl _))⟩))
        | ((with_reducible refine wpList_load_met 39 (.tmp 4) b3 0 (m.cells u l) _ (some 19) (B5).range Try.underlying39 rfl sizeMsg ?hg ?ho ?hds ?hx ?_); (case ho => rfl); (case hg => rfl); (case hds => rfl); (case hx => rfl))
        | fail)
      refine (written_walk m u l false _ PU5.out.1 PU5.out.2 HOK.out).mono ?_
      rintro e w6 ⟨r, rfl, tr, hb6⟩
      have R6 := R.below hb6 R.lt
      have B6 := B5.below hb6 B5.lt
      have HB6 := Lib.hid (HB5.out.trans (hb6.mono HB5.out.size))
      have PV6 := Lib.hid (show PathIn [b1] w6 u m.told.up ∧ PathIn [b1] w6 l m.told.left from ⟨PV5.out.1.turned (Turned.of_below hb6 (Nat.le_refl _)), PV5.out.2.turned (Turned.of_below hb6 (Nat.le_refl _))⟩)
      have TR := Lib.hid (show Txt r (msgPut m) from tr)
      clear tr hb6 R4 B4 R B5 HB4 HB5 PU PU5
      by_cases hp : r = s
      · have e1 : (r.toList == s.toList) = true := by rw [hp]; simp
        have HPP := Lib.hid hp
        clear hp
        go_wp2_with (first
          | ((with_reducible refine wpList_load_met 39 (.tmp 4) b3 0 (m.cells u l) _ (some 25) (B6).range Try.underlying39 rfl sizeMsg ?hg ?ho ?hds ?hx ?_); (case ho => rfl); (case hg => rfl); (case hds => rfl); (case hx => rfl))
          | ((with_reducible refine wpList_store_new 39 (.tmp 2) (.tmp 25) b1 mzero (m.cells u l) 39 R6 rfl sizeMsg one6 ?hgd ?ho ?hx ?hy ?_); (case hgd => rfl); (case ho => rfl); (case hx => rfl); (case hy => rfl); (intro w9 B9 o9))
          | fail)
        (try simp only [Exit.inBlock, Exit.then])
        have PU9 : PRow w9 u m.told.up ∧ PRow w9 l m.told.left := ⟨(PV6.out.1.turned (o9.turned (by simp))).sub (fun x hx => (List.not_mem_nil hx).elim), (PV6.out.2.turned (o9.turned (by simp))).sub (fun x hx => (List.not_mem_nil hx).elim)⟩
        refine bodyPost_ret (results_cm rfl _ _ B9 rfl rfl) rfl ⟨.inl ⟨m, u, l, ⟨HRD.out, HOK.out, ?_⟩, rfl, PU9.1, PU9.2⟩, o9.below HB6.out f1⟩
        rw [← HPP.out]; exact TR.out.symm
      · have e1 : (r.toList == s.toList) = false := (Txt.self r).other (Txt.self s) (fun e => hp (by
          have h1 := (Txt.self r).of
          have h2 := (Txt.self s).of
          rw [h1, h2, e]))
        have HNO := Lib.hid (show ∀ m', ¬ TakenAs s.data.toList m' from fun m' h => by
          have h1 := h.1
          rw [HRD.out] at h1
          injection h1 with h1
          injection h1 with h1 _
          have h2 := h.2.2
          rw [← h1] at h2
          exact hp (TR.out.eq (h2 ▸ Txt.self s)))
        clear hp
        have R := R6
        go_wp2_with (first
          | ((with_reducible refine wpList_build_eq 39 ?parts mzero ?hg ?ho ?hf ?_); (case hg => rfl); (case ho => rfl); (case hf => kernel_rfl))
          | ((with_reducible refine wpList_store_new 39 (.tmp 2) (.tmp 24) b1 mzero mzero 39 R rfl rsizeM0 mzero_one ?hgd ?ho ?hx ?hy ?_); (case hgd => rfl); (case ho => rfl); (case hx => rfl); (case hy => rfl); (intro w9 B9 o9))
          | fail)
        (try simp only [Exit.inBlock, Exit.then])
        refine bodyPost_ret (results_cm rfl _ _ B9 rfl rfl) rfl ⟨.inr ⟨HNO.out, rfl⟩, o9.below HB6.out f1⟩
  · have HNO := Lib.hid (show ∀ m', ¬ TakenAs s.data.toList m' from fun m' h => hno m' h.1)
    have hcl : cs.toList.length = mzero.length := by rw [Array.length_toList, hcs]; rfl
    have hci : (Try.prog.info? 39).map (·.size) = some cs.toList.length := by rw [hcl]; exact rsizeM0
    clear hno
    go_wp2_with (first
      | ((with_reducible refine wpList_alloc_new 39 mzero zeroMsgB (some 4) ?hgd ?ho ?hd ?_); (case hgd => rfl); (case ho => rfl); (case hd => rfl); (intro b3 w3 l3 B3 e3 z3); have R3 := R2.below e3 (Nat.lt_of_lt_of_le R2.lt l3); have hne : b1 ≠ b3 := (by have := R2.lt; omega); have f3 : w.heap.size ≤ b3 := Nat.le_trans HB2.out.size l3)
      | ((with_reducible refine wpList_store_new 39 (.tmp 4) (.tmp 9) b3 mzero cs.toList 39 B3 hcl hci hone ?hgd ?ho ?hx ?hy ?_); (case hgd => rfl); (case ho => rfl); (case hx => rfl); (case hy => rfl); (intro w4 B4 o4); have R := o4.blk R3 hne; have HB4 := Lib.hid (o4.below (HB2.out.trans (e3.mono f3)) f3))
      | ((with_reducible refine wpList_build_eq 39 ?parts mzero ?hg ?ho ?hf ?_); (case hg => rfl); (case ho => rfl); (case hf => kernel_rfl))
      | ((with_reducible refine wpList_store_new 39 (.tmp 2) (.tmp 24) b1 mzero mzero 39 R rfl rsizeM0 mzero_one ?hgd ?ho ?hx ?hy ?_); (case hgd => rfl); (case ho => rfl); (case hx => rfl); (case hy => rfl); (intro w9 B9 o9))
      | fail)
    (try simp only [Exit.inBlock, Exit.then])
    refine bodyPost_ret (results_cm rfl _ _ B9 rfl rfl) rfl ⟨.inr ⟨HNO.out, rfl⟩, o9.below HB4.out f1⟩
end Go.Proofs.Ytkdplgcffdaoaaa
