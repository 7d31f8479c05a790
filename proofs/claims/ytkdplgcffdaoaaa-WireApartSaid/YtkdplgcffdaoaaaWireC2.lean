/- Walk of wire.told (chapter 27): may what a place has be? -/
import Derived.Test.YtkdplgcffdaoaaaWireC1
namespace Go.Proofs.Ytkdplgcffdaoaaa
set_option linter.unusedSimpArgs false
set_option linter.unusedVariables false
open Go Go.RowKit
set_option linter.unusedVariables false

def ToldD.pcells (t : ToldD) (u l : Value) : List Value := [.bool t.found, .int .i64 t.at_, .int .i64 t.here.lba, .string t.here.hash, .int .i64 t.ahead.lba, .string t.ahead.hash, u, l]
def pzero : List Value := [.bool false, .int .i64 0, .int .i64 0, .string ⟨#[]⟩, .int .i64 0, .string ⟨#[]⟩, .slice none 0 0, .slice none 0 0]
theorem ToldD.pAt (t : ToldD) (u l : Value) : t.cells u l = (t.cells u l).take 3 ++ t.pcells u l ++ (t.cells u l).drop 11 := rfl
theorem Blk.lpart2 {w : World} {p : Nat} {t : ToldD} {u l : Value} {y : TypeId} (h : Blk w p (t.pcells u l) y) : w.rangeAt p 2 t.here.cells := (h.ext (show t.pcells u l = (t.pcells u l).take 2 ++ t.here.cells ++ (t.pcells u l).drop 4 from rfl)).part rfl
theorem Blk.lpart4 {w : World} {p : Nat} {t : ToldD} {u l : Value} {y : TypeId} (h : Blk w p (t.pcells u l) y) : w.rangeAt p 4 t.ahead.cells := (h.ext (show t.pcells u l = (t.pcells u l).take 4 ++ t.ahead.cells ++ (t.pcells u l).drop 6 from rfl)).part rfl
theorem zeroProof (w : World) : Sem.run Try.prog (zeroValue 33) w = .ok (.agg pzero.toArray) w := by kernel_rfl
theorem rsizeProof {t : ToldD} {u l : Value} : (Try.prog.info? 33).map (·.size) = some (t.pcells u l).length := by kernel_rfl
theorem pcells_one {t : ToldD} {w : World} {u l : Value} {xs ys : List ByteArray} (hu : PRow w u xs) (hl : PRow w l ys) : ∀ v ∈ t.pcells u l, v.oneCell' = true := by
  obtain ⟨p, c, rfl⟩ := hu.shape
  obtain ⟨p', c', rfl⟩ := hl.shape
  intro v hv
  simp only [ToldD.pcells, List.mem_cons, List.mem_nil_iff, or_false] at hv
  rcases hv with rfl | rfl | rfl | rfl | rfl | rfl | rfl | rfl <;> rfl
theorem nilB (c : ByteArray) : (c.toList == []) = decide (c = ⟨#[]⟩) := by
  rw [Bool.eq_iff_iff]
  simp only [beq_iff_eq, decide_eq_true_eq]
  constructor
  · intro h
    have : Txt c [] := by rw [Lib.toList_data] at h; exact h
    exact this.eqB
  · intro h; subst h; rw [Lib.toList_data]
set_option maxRecDepth 100000 in
set_option maxHeartbeats 4000000 in
theorem told27_gone (t : ToldD) (u l : Value) (w : World) (hu : PRow w u t.up) (hl : PRow w l t.left) (hul : t.up.length ≤ 1048576) (hll : t.left.length ≤ 1048576) (hg : t.gone = true) :
    Calls Try.prog 53 #[t.v u l] w fun r w' => r = .returned (.bool (toldOk t)) ∧ Below w.heap.size w w' := by
  obtain ⟨pu, cu, hu1⟩ := hu.shape
  obtain ⟨pl, cl, hl1⟩ := hl.shape
  obtain ⟨nu, hnu⟩ : ∃ n, n = t.up.length := ⟨_, rfl⟩
  obtain ⟨nl, hnl⟩ : ∃ n, n = t.left.length := ⟨_, rfl⟩
  rw [← hnu] at hu1 hul
  rw [← hnl] at hl1 hll
  have HNU := Lib.hid hnu; have HNL := Lib.hid hnl
  clear hnu hnl
  subst hu1 hl1
  have hwr : wrap64 ((nu : Int) + (nl : Int)) = (nu : Int) + (nl : Int) := IntWalk.wrap64_in _ ⟨by omega, by omega⟩
  obtain ⟨u, hu2⟩ : ∃ u, u = Value.slice pu nu cu := ⟨_, rfl⟩
  obtain ⟨l, hl2⟩ : ∃ l, l = Value.slice pl nl cl := ⟨_, rfl⟩
  have hg' : (Value.bool t.gone) = .bool true := by rw [hg]
  obtain ⟨ok, hok⟩ : ∃ ok, ok = toldOk t := ⟨_, rfl⟩
  have HOK := Lib.hid (show ok = (askOk t.askE t.askL && toldBare t) by rw [hok]; unfold toldOk; rw [if_pos hg])
  rw [← hok]
  clear hok
  rw [← hu2] at hu ⊢
  rw [← hl2] at hl ⊢
  have HG := Lib.hid hg
  have HU2 := Lib.hid hu2; have HL2 := Lib.hid hl2
  clear hu2 hl2 hg hg'
  go_enter Try.func53, Try.ntmps53
  go_wp2_with (first
    | ((with_reducible refine wpList_box_new 35 (.tmp 0) (t.cells u l) (some 1) ?hgd ?ho ?hd ?hx ?_); (case hgd => rfl); (case ho => rfl); (case hd => rfl); (case hx => rfl); (intro b w0 l0 B0 e0 z0; have PR0 : w0.rangeAt b 3 (t.pcells u l) := (B0.ext (t.pAt u l)).part rfl))
    | ((with_reducible refine wpList_alloc_new 33 pzero zeroProof (some 3) ?hgd ?ho ?hd ?_); (case hgd => rfl); (case ho => rfl); (case hd => rfl); (intro p w1 l1 B1 e1 z1; have BB1 := B0.below e1 (Nat.lt_of_lt_of_le B0.lt l1)))
    | ((with_reducible refine wpList_load_met 33 (.tmp 5) b 3 (t.pcells u l) _ (some 6) PR0 Try.underlying33 rfl rsizeProof ?hg ?ho ?hds ?hx ?_); (case hg => rfl); (case ho => rfl); (case hds => rfl); (case hx => rfl))
    | (((with_reducible refine wpList_store_new 33 (.tmp 3) (.tmp 6) p pzero (t.pcells u l) 33 B1 rfl rsizeProof (pcells_one hu hl) ?hgd ?ho ?hx ?hy ?_); (case hgd => rfl); (case ho => rfl); (case hx => rfl); (case hy => rfl); (intro w2 B2 o2; have BB2 := o2.blk BB1 (by have := B0.lt; omega); have HB2 : Below w.heap.size w w2 := o2.below ((e0.mono l0).trans (e1.mono (by have := e0.size; omega))) (by have := e0.size; omega); have c0 := BB2.cell (i := 0) rfl; have c1 := BB2.cell (i := 1) rfl; have c2 := BB2.cell (i := 2) rfl; have c11 := BB2.cell (i := 11) rfl; have c12 := BB2.cell (i := 12) rfl; have d0 := B2.cell (i := 0) rfl; have d1 := B2.cell (i := 1) rfl; have d6 := B2.cell (i := 6) rfl; have d7 := B2.cell (i := 7) rfl)); rw [HG.out] at c2; rw [HU2.out] at d6; rw [HL2.out] at d7)
    | ((go_at_call 52; refine (ask27_walk t.askE t.askL _).mono ?_; rintro e3 w3 ⟨rfl, hb3⟩; have BB3 := BB2.below hb3 BB2.lt; have P3 := B2.below hb3 B2.lt; have HB3 := HB2.trans (hb3.mono HB2.size); have ac0 := BB3.cell (i := 0) rfl; have ac1 := BB3.cell (i := 1) rfl; have ac2 := BB3.cell (i := 2) rfl; have ac11 := BB3.cell (i := 11) rfl; have ac12 := BB3.cell (i := 12) rfl; have ad0 := P3.cell (i := 0) rfl; have ad1 := P3.cell (i := 1) rfl; have ad6 := P3.cell (i := 6) rfl; have ad7 := P3.cell (i := 7) rfl); rw [HG.out] at ac2; rw [HU2.out] at ad6; rw [HL2.out] at ad7)
    | ((with_reducible refine wpList_load_met 29 (.tmp 33) p 2 t.here.cells _ (some 34) (P3.lpart2) Try.underlying29 rfl rsizeLeaf ?hg ?ho ?hds ?hx ?_); (case hg => rfl); (case ho => rfl); (case hds => rfl); (case hx => rfl))
    | ((with_reducible refine wpList_eq_agg 29 29 (.tmp 34) (.tmp 35) t.here.cells.toArray LeafD.zero.cells.toArray _ (some 36) guardLeaf (eqLeaf t.here LeafD.zero _) ?hgd ?ho ?hd ?hx ?hy ?_); (case hgd => rfl); (case ho => rfl); (case hd => rfl); (case hx => rfl); (case hy => rfl))
    | ((with_reducible refine wpList_load_met 29 (.tmp 39) p 4 t.ahead.cells _ (some 40) (P3.lpart4) Try.underlying29 rfl rsizeLeaf ?hg ?ho ?hds ?hx ?_); (case hg => rfl); (case ho => rfl); (case hds => rfl); (case hx => rfl))
    | ((with_reducible refine wpList_eq_agg 29 29 (.tmp 40) (.tmp 41) t.ahead.cells.toArray LeafD.zero.cells.toArray _ (some 42) guardLeaf (eqLeaf t.ahead LeafD.zero _) ?hgd ?ho ?hd ?hx ?hy ?_); (case hgd => rfl); (case ho => rfl); (case hd => rfl); (case hx => rfl); (case hy => rfl))
    | fail)
  all_goals go_ret
  all_goals refine ⟨ret_b ?_, HB3⟩
  all_goals (rw [HOK.out]; unfold toldBare; rw [← HNU.out, ← HNL.out, ← nilB]; simp [*]; try (rw [Bool.eq_iff_iff]; simp; omega))
set_option maxRecDepth 100000 in
set_option maxHeartbeats 16000000 in
theorem told27_there (t : ToldD) (u l : Value) (w : World) (hu : PRow w u t.up) (hl : PRow w l t.left) (hul : t.up.length ≤ 1048576) (hll : t.left.length ≤ 1048576) (hx : t.here.hash.size ≤ 1048576) (hy : t.ahead.hash.size ≤ 1048576) (hg : t.gone = false) :
    Calls Try.prog 53 #[t.v u l] w fun r w' => r = .returned (.bool (toldOk t)) ∧ Below w.heap.size w w' := by
  obtain ⟨pu, cu, hu1⟩ := hu.shape
  obtain ⟨pl, cl, hl1⟩ := hl.shape
  obtain ⟨nu, hnu⟩ : ∃ n, n = t.up.length := ⟨_, rfl⟩
  obtain ⟨nl, hnl⟩ : ∃ n, n = t.left.length := ⟨_, rfl⟩
  rw [← hnu] at hu1 hul
  rw [← hnl] at hl1 hll
  have HNU := Lib.hid hnu; have HNL := Lib.hid hnl
  clear hnu hnl
  subst hu1 hl1
  have hwr : wrap64 ((nu : Int) + (nl : Int)) = (nu : Int) + (nl : Int) := IntWalk.wrap64_in _ ⟨by omega, by omega⟩
  obtain ⟨u, hu2⟩ : ∃ u, u = Value.slice pu nu cu := ⟨_, rfl⟩
  obtain ⟨l, hl2⟩ : ∃ l, l = Value.slice pl nl cl := ⟨_, rfl⟩
  have hg' : (Value.bool t.gone) = .bool false := by rw [hg]
  obtain ⟨ok, hok⟩ : ∃ ok, ok = toldOk t := ⟨_, rfl⟩
  have HOK := Lib.hid (show ok = (askOk t.askE t.askL && epochOk t.slot && decide ((t.cipher.size : Int) ≤ 4000) && (decide (0 ≤ t.at_) && decide (t.at_ ≤ 4096)) && leafOk t.here && leafOk t.ahead && (decide (t.up.length ≤ 12) && decide (t.left.length ≤ 12) && all32 t.up && all32 t.left)) by rw [hok]; unfold toldOk; rw [if_neg (by rw [hg]; decide)])
  rw [← hok]
  clear hok
  rw [← hu2] at hu ⊢
  rw [← hl2] at hl ⊢
  have HG := Lib.hid hg
  have HU2 := Lib.hid hu2; have HL2 := Lib.hid hl2
  clear hu2 hl2 hg hg'
  obtain ⟨pok, hpok⟩ : ∃ pok, pok = (decide (nu ≤ 12) && decide (nl ≤ 12) && all32 t.up && all32 t.left) := ⟨_, rfl⟩
  have HPOK := Lib.hid hpok
  have HU3 : Hid (PRow w (.slice pu nu cu) t.up) := Lib.hid (by rw [← HU2.out]; exact hu)
  have HL3 : Hid (PRow w (.slice pl nl cl) t.left) := Lib.hid (by rw [← HL2.out]; exact hl)
  clear hpok
  go_enter Try.func53, Try.ntmps53
  go_upto_region 4 with (first
    | ((with_reducible refine wpList_box_new 35 (.tmp 0) (t.cells u l) (some 1) ?hgd ?ho ?hd ?hx ?_); (case hgd => rfl); (case ho => rfl); (case hd => rfl); (case hx => rfl); (intro b w0 l0 B0 e0 z0; have PR0 : w0.rangeAt b 3 (t.pcells u l) := (B0.ext (t.pAt u l)).part rfl))
    | ((with_reducible refine wpList_alloc_new 33 pzero zeroProof (some 3) ?hgd ?ho ?hd ?_); (case hgd => rfl); (case ho => rfl); (case hd => rfl); (intro p w1 l1 B1 e1 z1; have BB1 := B0.below e1 (Nat.lt_of_lt_of_le B0.lt l1)))
    | ((with_reducible refine wpList_load_met 33 (.tmp 5) b 3 (t.pcells u l) _ (some 6) PR0 Try.underlying33 rfl rsizeProof ?hg ?ho ?hds ?hx ?_); (case hg => rfl); (case ho => rfl); (case hds => rfl); (case hx => rfl))
    | (((with_reducible refine wpList_store_new 33 (.tmp 3) (.tmp 6) p pzero (t.pcells u l) 33 B1 rfl rsizeProof (pcells_one hu hl) ?hgd ?ho ?hx ?hy ?_); (case hgd => rfl); (case ho => rfl); (case hx => rfl); (case hy => rfl); (intro w2 B2 o2; have BB2 := o2.blk BB1 (by have := B0.lt; omega); have HB2 : Below w.heap.size w w2 := o2.below ((e0.mono l0).trans (e1.mono (by have := e0.size; omega))) (by have := e0.size; omega); have c0 := BB2.cell (i := 0) rfl; have c1 := BB2.cell (i := 1) rfl; have c2 := BB2.cell (i := 2) rfl; have c11 := BB2.cell (i := 11) rfl; have c12 := BB2.cell (i := 12) rfl; have d0 := B2.cell (i := 0) rfl; have d1 := B2.cell (i := 1) rfl; have d6 := B2.cell (i := 6) rfl; have d7 := B2.cell (i := 7) rfl)); rw [HG.out] at c2; rw [HU2.out] at d6; rw [HL2.out] at d7)
    | fail)
  go_cut [4] from 54 to 73 (fun v wc => v = .bool pok ∧ wc = w2)
  case first =>
    go_wp2_with (first
      | (have _ := wide1; (go_at_call 33; refine (wide27_walk (.slice pl nl cl) t.left _ (HL3.out.below HB2 (Nat.le_refl _)) (by rw [← HNL.out]; omega)).mono ?_; rintro ev wv ⟨rfl, rfl⟩))
      | ((go_at_call 33; refine (wide27_walk (.slice pu nu cu) t.up _ (HU3.out.below HB2 (Nat.le_refl _)) (by rw [← HNU.out]; omega)).mono ?_; rintro eu wu ⟨rfl, rfl⟩); have wide1 := trivial)
      | fail)
    all_goals go_meet
    all_goals refine ⟨congrArg Value.bool ?_, rfl⟩
    all_goals (rw [HPOK.out]; simp_all; try omega)
  case rest =>
    obtain ⟨rfl, rfl⟩ := hcut
    go_wp2_with (first
      | ((go_at_call 52; refine (ask27_walk t.askE t.askL _).mono ?_; rintro e3 w3 ⟨rfl, hb3⟩; have BB3 := BB2.below hb3 BB2.lt; have P3 := B2.below hb3 B2.lt; have HB3 := HB2.trans (hb3.mono HB2.size); have ac0 := BB3.cell (i := 0) rfl; have ac1 := BB3.cell (i := 1) rfl; have ac2 := BB3.cell (i := 2) rfl; have ac11 := BB3.cell (i := 11) rfl; have ac12 := BB3.cell (i := 12) rfl; have ad0 := P3.cell (i := 0) rfl; have ad1 := P3.cell (i := 1) rfl; have ad6 := P3.cell (i := 6) rfl; have ad7 := P3.cell (i := 7) rfl); rw [HG.out] at ac2; rw [HU2.out] at ad6; rw [HL2.out] at ad7)
      | (go_at_call 49; refine (within27_walk _ _ _).mono ?_; rintro ew ww ⟨rfl, rfl⟩)
      | ((with_reducible refine wpList_load_met 29 (.tmp 94) p 2 t.here.cells _ (some 95) (P3.lpart2) Try.underlying29 rfl rsizeLeaf ?hg ?ho ?hds ?hx ?_); (case hg => rfl); (case ho => rfl); (case hds => rfl); (case hx => rfl))
      | (have _ := BB4; (go_at_call 67; refine (leaf27_walk t.ahead _ hy).mono ?_; rintro e5 w5 ⟨rfl, hb5⟩; have BB5 := BB4.below hb5 BB4.lt; have P5 := P4.below hb5 P4.lt; have HB5 := HB4.trans (hb5.mono HB4.size); have yc0 := BB5.cell (i := 0) rfl; have yc1 := BB5.cell (i := 1) rfl; have yc2 := BB5.cell (i := 2) rfl; have yc11 := BB5.cell (i := 11) rfl; have yc12 := BB5.cell (i := 12) rfl; have yd0 := P5.cell (i := 0) rfl; have yd1 := P5.cell (i := 1) rfl; have yd6 := P5.cell (i := 6) rfl; have yd7 := P5.cell (i := 7) rfl))
      | ((with_reducible refine wpList_load_met 29 (.tmp 99) p 4 t.ahead.cells _ (some 100) (P4.lpart4) Try.underlying29 rfl rsizeLeaf ?hg ?ho ?hds ?hx ?_); (case hg => rfl); (case ho => rfl); (case hds => rfl); (case hx => rfl))
      | ((go_at_call 67; refine (leaf27_walk t.here _ hx).mono ?_; rintro e4 w4 ⟨rfl, hb4⟩; have BB4 := BB3.below hb4 BB3.lt; have P4 := P3.below hb4 P3.lt; have HB4 := HB3.trans (hb4.mono HB3.size); have bc0 := BB4.cell (i := 0) rfl; have bc1 := BB4.cell (i := 1) rfl; have bc2 := BB4.cell (i := 2) rfl; have bc11 := BB4.cell (i := 11) rfl; have bc12 := BB4.cell (i := 12) rfl; have bd0 := P4.cell (i := 0) rfl; have bd1 := P4.cell (i := 1) rfl; have bd6 := P4.cell (i := 6) rfl; have bd7 := P4.cell (i := 7) rfl))
      | fail)
    all_goals go_ret
    all_goals refine ⟨ret_b ?_, ?_⟩
    all_goals first | exact HB5 | exact HB4 | exact HB3 | skip
    all_goals (rw [HOK.out]; unfold epochOk; rw [← HNU.out, ← HNL.out, ← HPOK.out]; simp_all [withinB]; try omega)
theorem told27_walk (t : ToldD) (u l : Value) (w : World) (hu : PRow w u t.up) (hl : PRow w l t.left) (hul : t.up.length ≤ 1048576) (hll : t.left.length ≤ 1048576) (hx : t.here.hash.size ≤ 1048576) (hy : t.ahead.hash.size ≤ 1048576) :
    Calls Try.prog 53 #[t.v u l] w fun r w' => r = .returned (.bool (toldOk t)) ∧ Below w.heap.size w w' := by
  cases hg : t.gone with
  | true => exact told27_gone t u l w hu hl hul hll hg
  | false => exact told27_there t u l w hu hl hul hll hx hy hg
end Go.Proofs.Ytkdplgcffdaoaaa
