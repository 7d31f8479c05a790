/- Walk of the documents' Few of a message (chapter 27), a theorem a way. -/
import Derived.Test.YtkdplgcffdaoaaaWireF
namespace Go.Proofs.Ytkdplgcffdaoaaa
set_option linter.unusedSimpArgs false
set_option linter.unusedVariables false
open Go Go.RowKit
set_option linter.unusedVariables false

theorem MsgD.proofAt (m : MsgD) (u l : Value) : m.cells u l = (m.cells u l).take 20 ++ m.told.pcells u l ++ (m.cells u l).drop 28 := rfl
/-- Is a message gone through, but for its nonce, tag, last tag? -/
structure FewM (m : MsgD) : Prop where
  sld : fewR m.sld.r = true
  stag : m.sld.tag.size ≤ 1000
  rcp : fewRcp m.rcp = true
  cipher : m.told.cipher.size ≤ 8000
  proof : fewP m.told = true
/-- How Few ends: where it says yes, so few it is. -/
def FewEnd (m : MsgD) (e : Ending) : Prop := ∃ q, e = .returned (.bool q) ∧ (q = true → FewM m)
theorem FewEnd.no {m : MsgD} {e : Ending} (h : e = .returned (.bool false)) : FewEnd m e := ⟨false, h, fun h => by cases h⟩
theorem FewEnd.any {m : MsgD} {e : Ending} {q : Bool} (he : e = .returned (.bool q)) (h : q = true → FewM m) : FewEnd m e := ⟨q, he, h⟩
def sum27 (m : MsgD) : Int := wrap64 (wrap64 ((m.nonce.size : Int) + (m.tag.size : Int)) + (m.last.size : Int))
set_option maxRecDepth 100000 in
set_option maxHeartbeats 4000000 in
theorem few27_0 (m : MsgD) (u l : Value) (w : World) (hf : MsgFits w m u l) (h0 : ¬ sum27 m ≤ 3000) :
    Calls Try.prog 6 #[m.v u l] w fun e w' => e = .returned (.bool false) ∧ Below w.heap.size w w' := by
  have HF := Lib.hid hf; clear hf
  unfold sum27 at h0
  go_enter Try.func6, Try.ntmps6
  go_wp2_with (first
    | ((with_reducible refine wpList_box_new 39 (.tmp 0) (m.cells u l) (some 1) ?hgd ?ho ?hd ?hx ?_); (case hgd => rfl); (case ho => rfl); (case hd => rfl); (case hx => rfl); (intro b w0 l0 B e0 z0); have HB0 : Below w.heap.size w w0 := e0.mono l0; have c3 := B.cell (i := 3) rfl; have c4 := B.cell (i := 4) rfl; have c5 := B.cell (i := 5) rfl)

    | fail)
  go_ret
  exact ⟨rfl, HB0⟩
set_option maxRecDepth 100000 in
set_option maxHeartbeats 4000000 in
theorem few27_1 (m : MsgD) (u l : Value) (w : World) (hf : MsgFits w m u l) (h0 : sum27 m ≤ 3000) (h1 : fewR m.sld.r = false) :
    Calls Try.prog 6 #[m.v u l] w fun e w' => e = .returned (.bool false) ∧ Below w.heap.size w w' := by
  have HF := Lib.hid hf; clear hf
  unfold sum27 at h0
  have H1 := Lib.hid h1; clear h1
  go_enter Try.func6, Try.ntmps6
  go_wp2_with (first
    | ((with_reducible refine wpList_box_new 39 (.tmp 0) (m.cells u l) (some 1) ?hgd ?ho ?hd ?hx ?_); (case hgd => rfl); (case ho => rfl); (case hd => rfl); (case hx => rfl); (intro b w0 l0 B e0 z0); have HB0 : Below w.heap.size w w0 := e0.mono l0; have c3 := B.cell (i := 3) rfl; have c4 := B.cell (i := 4) rfl; have c5 := B.cell (i := 5) rfl)
    | ((with_reducible refine wpList_load_met 25 (.tmp 17) b 8 m.sld.r.cells _ (some 18) ((B.ext (m.recAt u l)).part (off := 8) rfl) Try.underlying25 rfl rsizeRec ?hg ?ho ?hds ?hx ?_); (case ho => rfl); (case hg => rfl); (case hds => rfl); (case hx => rfl))
    | (go_at_call 15; refine (few19_walk m.sld.r _).mono ?_; rintro e w1 ⟨he, hb1⟩; rw [H1.out] at he; subst he; have B2 := B.below hb1 B.lt; have HB1 := HB0.trans (hb1.mono HB0.size); have c16 := B2.cell (i := 16) rfl)
    | fail)
  go_ret
  exact ⟨rfl, HB1⟩
set_option maxRecDepth 100000 in
set_option maxHeartbeats 4000000 in
theorem few27_2 (m : MsgD) (u l : Value) (w : World) (hf : MsgFits w m u l) (h0 : sum27 m ≤ 3000) (h1 : fewR m.sld.r = true) (h2 : ¬ m.sld.tag.size ≤ 1000) :
    Calls Try.prog 6 #[m.v u l] w fun e w' => e = .returned (.bool false) ∧ Below w.heap.size w w' := by
  have HF := Lib.hid hf; clear hf
  unfold sum27 at h0
  have H1 := Lib.hid h1; clear h1
  have h2' : ¬ (m.sld.tag.size : Int) ≤ 1000 := by omega
  go_enter Try.func6, Try.ntmps6
  go_wp2_with (first
    | ((with_reducible refine wpList_box_new 39 (.tmp 0) (m.cells u l) (some 1) ?hgd ?ho ?hd ?hx ?_); (case hgd => rfl); (case ho => rfl); (case hd => rfl); (case hx => rfl); (intro b w0 l0 B e0 z0); have HB0 : Below w.heap.size w w0 := e0.mono l0; have c3 := B.cell (i := 3) rfl; have c4 := B.cell (i := 4) rfl; have c5 := B.cell (i := 5) rfl)
    | ((with_reducible refine wpList_load_met 25 (.tmp 17) b 8 m.sld.r.cells _ (some 18) ((B.ext (m.recAt u l)).part (off := 8) rfl) Try.underlying25 rfl rsizeRec ?hg ?ho ?hds ?hx ?_); (case ho => rfl); (case hg => rfl); (case hds => rfl); (case hx => rfl))
    | (go_at_call 15; refine (few19_walk m.sld.r _).mono ?_; rintro e w1 ⟨he, hb1⟩; rw [H1.out] at he; subst he; have B2 := B.below hb1 B.lt; have HB1 := HB0.trans (hb1.mono HB0.size); have c16 := B2.cell (i := 16) rfl)
    | fail)
  go_ret
  exact ⟨rfl, HB1⟩
set_option maxRecDepth 100000 in
set_option maxHeartbeats 4000000 in
theorem few27_3 (m : MsgD) (u l : Value) (w : World) (hf : MsgFits w m u l) (h0 : sum27 m ≤ 3000) (h1 : fewR m.sld.r = true) (h2 : m.sld.tag.size ≤ 1000) (h3 : fewRcp m.rcp = false) :
    Calls Try.prog 6 #[m.v u l] w fun e w' => e = .returned (.bool false) ∧ Below w.heap.size w w' := by
  have HF := Lib.hid hf; clear hf
  unfold sum27 at h0
  have H1 := Lib.hid h1; clear h1
  have h2' : (m.sld.tag.size : Int) ≤ 1000 := by omega
  have H3 := Lib.hid h3; clear h3
  go_enter Try.func6, Try.ntmps6
  go_wp2_with (first
    | ((with_reducible refine wpList_box_new 39 (.tmp 0) (m.cells u l) (some 1) ?hgd ?ho ?hd ?hx ?_); (case hgd => rfl); (case ho => rfl); (case hd => rfl); (case hx => rfl); (intro b w0 l0 B e0 z0); have HB0 : Below w.heap.size w w0 := e0.mono l0; have c3 := B.cell (i := 3) rfl; have c4 := B.cell (i := 4) rfl; have c5 := B.cell (i := 5) rfl)
    | ((with_reducible refine wpList_load_met 25 (.tmp 17) b 8 m.sld.r.cells _ (some 18) ((B.ext (m.recAt u l)).part (off := 8) rfl) Try.underlying25 rfl rsizeRec ?hg ?ho ?hds ?hx ?_); (case ho => rfl); (case hg => rfl); (case hds => rfl); (case hx => rfl))
    | (go_at_call 15; refine (few19_walk m.sld.r _).mono ?_; rintro e w1 ⟨he, hb1⟩; rw [H1.out] at he; subst he; have B2 := B.below hb1 B.lt; have HB1 := HB0.trans (hb1.mono HB0.size); have c16 := B2.cell (i := 16) rfl)
    | ((with_reducible refine wpList_load_met 37 (.tmp 29) b 30 m.rcp.cells _ (some 30) ((B2.ext (m.rcpAt u l)).part (off := 30) rfl) Try.underlying37 rfl rsizeRcp ?hg ?ho ?hds ?hx ?_); (case ho => rfl); (case hg => rfl); (case hds => rfl); (case hx => rfl))
    | (go_at_call 16; refine (few21_walk m.rcp _).mono ?_; rintro e w2 ⟨he, hb2⟩; rw [H3.out] at he; subst he; have B3 := B2.below hb2 B2.lt; have HB2 := HB1.trans (hb2.mono HB1.size); have c29 := B3.cell (i := 29) rfl)
    | fail)
  go_ret
  exact ⟨rfl, HB2⟩
set_option maxRecDepth 100000 in
set_option maxHeartbeats 4000000 in
theorem few27_4 (m : MsgD) (u l : Value) (w : World) (hf : MsgFits w m u l) (h0 : sum27 m ≤ 3000) (h1 : fewR m.sld.r = true) (h2 : m.sld.tag.size ≤ 1000) (h3 : fewRcp m.rcp = true) (h4 : ¬ m.told.cipher.size ≤ 8000) :
    Calls Try.prog 6 #[m.v u l] w fun e w' => e = .returned (.bool false) ∧ Below w.heap.size w w' := by
  have HF := Lib.hid hf; clear hf
  unfold sum27 at h0
  have H1 := Lib.hid h1; clear h1
  have h2' : (m.sld.tag.size : Int) ≤ 1000 := by omega
  have H3 := Lib.hid h3; clear h3
  have h4' : ¬ (m.told.cipher.size : Int) ≤ 8000 := by omega
  go_enter Try.func6, Try.ntmps6
  go_wp2_with (first
    | ((with_reducible refine wpList_box_new 39 (.tmp 0) (m.cells u l) (some 1) ?hgd ?ho ?hd ?hx ?_); (case hgd => rfl); (case ho => rfl); (case hd => rfl); (case hx => rfl); (intro b w0 l0 B e0 z0); have HB0 : Below w.heap.size w w0 := e0.mono l0; have c3 := B.cell (i := 3) rfl; have c4 := B.cell (i := 4) rfl; have c5 := B.cell (i := 5) rfl)
    | ((with_reducible refine wpList_load_met 25 (.tmp 17) b 8 m.sld.r.cells _ (some 18) ((B.ext (m.recAt u l)).part (off := 8) rfl) Try.underlying25 rfl rsizeRec ?hg ?ho ?hds ?hx ?_); (case ho => rfl); (case hg => rfl); (case hds => rfl); (case hx => rfl))
    | (go_at_call 15; refine (few19_walk m.sld.r _).mono ?_; rintro e w1 ⟨he, hb1⟩; rw [H1.out] at he; subst he; have B2 := B.below hb1 B.lt; have HB1 := HB0.trans (hb1.mono HB0.size); have c16 := B2.cell (i := 16) rfl)
    | ((with_reducible refine wpList_load_met 37 (.tmp 29) b 30 m.rcp.cells _ (some 30) ((B2.ext (m.rcpAt u l)).part (off := 30) rfl) Try.underlying37 rfl rsizeRcp ?hg ?ho ?hds ?hx ?_); (case ho => rfl); (case hg => rfl); (case hds => rfl); (case hx => rfl))
    | (go_at_call 16; refine (few21_walk m.rcp _).mono ?_; rintro e w2 ⟨he, hb2⟩; rw [H3.out] at he; subst he; have B3 := B2.below hb2 B2.lt; have HB2 := HB1.trans (hb2.mono HB1.size); have c29 := B3.cell (i := 29) rfl)
    | fail)
  go_ret
  exact ⟨rfl, HB2⟩
set_option maxRecDepth 100000 in
set_option maxHeartbeats 4000000 in
theorem few27_5 (m : MsgD) (u l : Value) (w : World) (hf : MsgFits w m u l) (h0 : sum27 m ≤ 3000) (h1 : fewR m.sld.r = true) (h2 : m.sld.tag.size ≤ 1000) (h3 : fewRcp m.rcp = true) (h4 : m.told.cipher.size ≤ 8000) (q : Bool) (h5 : fewP m.told = q) :
    Calls Try.prog 6 #[m.v u l] w fun e w' => e = .returned (.bool q) ∧ Below w.heap.size w w' := by
  have HF := Lib.hid hf; clear hf
  unfold sum27 at h0
  have H1 := Lib.hid h1; clear h1
  have h2' : (m.sld.tag.size : Int) ≤ 1000 := by omega
  have H3 := Lib.hid h3; clear h3
  have h4' : (m.told.cipher.size : Int) ≤ 8000 := by omega
  have H5 := Lib.hid h5; clear h5
  go_enter Try.func6, Try.ntmps6
  go_wp2_with (first
    | ((with_reducible refine wpList_box_new 39 (.tmp 0) (m.cells u l) (some 1) ?hgd ?ho ?hd ?hx ?_); (case hgd => rfl); (case ho => rfl); (case hd => rfl); (case hx => rfl); (intro b w0 l0 B e0 z0); have HB0 : Below w.heap.size w w0 := e0.mono l0; have c3 := B.cell (i := 3) rfl; have c4 := B.cell (i := 4) rfl; have c5 := B.cell (i := 5) rfl)
    | ((with_reducible refine wpList_load_met 25 (.tmp 17) b 8 m.sld.r.cells _ (some 18) ((B.ext (m.recAt u l)).part (off := 8) rfl) Try.underlying25 rfl rsizeRec ?hg ?ho ?hds ?hx ?_); (case ho => rfl); (case hg => rfl); (case hds => rfl); (case hx => rfl))
    | (go_at_call 15; refine (few19_walk m.sld.r _).mono ?_; rintro e w1 ⟨he, hb1⟩; rw [H1.out] at he; subst he; have B2 := B.below hb1 B.lt; have HB1 := HB0.trans (hb1.mono HB0.size); have c16 := B2.cell (i := 16) rfl)
    | ((with_reducible refine wpList_load_met 37 (.tmp 29) b 30 m.rcp.cells _ (some 30) ((B2.ext (m.rcpAt u l)).part (off := 30) rfl) Try.underlying37 rfl rsizeRcp ?hg ?ho ?hds ?hx ?_); (case ho => rfl); (case hg => rfl); (case hds => rfl); (case hx => rfl))
    | (go_at_call 16; refine (few21_walk m.rcp _).mono ?_; rintro e w2 ⟨he, hb2⟩; rw [H3.out] at he; subst he; have B3 := B2.below hb2 B2.lt; have HB2 := HB1.trans (hb2.mono HB1.size); have c29 := B3.cell (i := 29) rfl)
    | ((with_reducible refine wpList_load_met 33 (.tmp 42) b 20 (m.told.pcells u l) _ (some 43) ((B3.ext (m.proofAt u l)).part (off := 20) rfl) Try.underlying33 rfl rsizeProof ?hg ?ho ?hds ?hx ?_); (case ho => rfl); (case hg => rfl); (case hds => rfl); (case hx => rfl))
    | (go_at_call 17; refine (few16_walk m.told u l _ (PRow.below HF.out.up HB2 (Nat.le_refl _)) (PRow.below HF.out.left HB2 (Nat.le_refl _)) HF.out.upl HF.out.leftl).mono ?_; rintro e w3 ⟨he, hb3⟩; rw [H5.out] at he; subst he; have HB3 := HB2.trans (hb3.mono HB2.size))
    | fail)
  go_ret
  exact ⟨rfl, HB3⟩
theorem few27_walk (m : MsgD) (u l : Value) (w : World) (hf : MsgFits w m u l) :
    Calls Try.prog 6 #[m.v u l] w fun e w' => FewEnd m e ∧ Below w.heap.size w w' := by
  by_cases h0 : sum27 m ≤ 3000
  rotate_left
  · exact (few27_0 m u l w hf h0).mono fun e w' ⟨he, hb⟩ => ⟨.no he, hb⟩
  cases h1 : fewR m.sld.r with
  | false => exact (few27_1 m u l w hf h0 h1).mono fun e w' ⟨he, hb⟩ => ⟨.no he, hb⟩
  | true =>
  by_cases h2 : m.sld.tag.size ≤ 1000
  rotate_left
  · exact (few27_2 m u l w hf h0 h1 h2).mono fun e w' ⟨he, hb⟩ => ⟨.no he, hb⟩
  cases h3 : fewRcp m.rcp with
  | false => exact (few27_3 m u l w hf h0 h1 h2 h3).mono fun e w' ⟨he, hb⟩ => ⟨.no he, hb⟩
  | true =>
  by_cases h4 : m.told.cipher.size ≤ 8000
  rotate_left
  · exact (few27_4 m u l w hf h0 h1 h2 h3 h4).mono fun e w' ⟨he, hb⟩ => ⟨.no he, hb⟩
  exact (few27_5 m u l w hf h0 h1 h2 h3 h4 _ rfl).mono fun e w' ⟨he, hb⟩ => ⟨.any he fun h5 => ⟨h1, h2, h3, h4, h5⟩, hb⟩
theorem bytesN_mem {xs : List ByteArray} (h : bytesN xs ≤ 8000) : ∀ x ∈ xs, x.size ≤ 8000 := by
  induction xs with
  | nil => intro x hx; cases hx
  | cons a r ih =>
    simp only [bytesN, List.map_cons, List.sum_cons] at h ih
    intro x hx
    rcases List.mem_cons.1 hx with rfl | hx
    · omega
    · exact ih (by omega) x hx
theorem FewM.tame {m : MsgD} {w : World} {u l : Value} (h : FewM m) (hf : MsgFits w m u l) : MsgTame m := by
  have h1 := h.sld; have h3 := h.rcp; have h5 := h.proof
  simp only [fewR, fewRcp, fewP, Bool.and_eq_true, decide_eq_true_eq] at h1 h3 h5
  exact ⟨by omega, by omega, by omega, by omega, by omega, by omega, hf.sld.epoch, by omega, by omega, hf.rcp.r.epoch, hf.rcp.seq⟩
end Go.Proofs.Ytkdplgcffdaoaaa
