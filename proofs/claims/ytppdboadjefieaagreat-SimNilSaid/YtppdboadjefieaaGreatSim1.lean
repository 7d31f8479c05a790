/- What a seized volume gives away (chapter 33): may, tags, Seize, Know, play, where there are no records and no calls. -/
import Derived.Test.YtppdboadjefieaaGreatVol3
namespace Go.Proofs.YtppdboadjefieaaGreat
set_option linter.unusedSimpArgs false
set_option linter.unusedVariables false
open Go Go.RowKit
set_option linter.unusedVariables false
set_option maxRecDepth 100000

theorem indexNil_walk (fv : Value) (p : Option Addr) (c : Nat) (w : World) :
    Calls Tryz.prog 200 #[.slice p 0 c, fv] w fun e w' => e = .returned (.int .i64 (-1)) ∧ w = w' := by
  go_enter Tryz.func200, Tryz.ntmps200
  go_wp2_with fail
  go_loopw [8] (fun v wr => v = .int .i64 0 ∧ w = wr) (fun _ _ => 0)
  case atStart => exact ⟨rfl, rfl⟩
  case round =>
    obtain ⟨rfl, rfl⟩ := hrel
    go_wp2_with fail
    go_ret
    exact ⟨rfl, rfl⟩
theorem containsNil_walk (fv : Value) (p : Option Addr) (c : Nat) (w : World) :
    Calls Tryz.prog 107 #[.slice p 0 c, fv] w fun e w' => e = .returned (.bool false) ∧ w = w' := by
  go_enter Tryz.func107, Tryz.ntmps107
  go_wp2_with fail
  refine (indexNil_walk fv p c _).mono ?_
  rintro e w' ⟨rfl, rfl⟩
  go_wp2_with fail
  go_ret
  exact ⟨rfl, rfl⟩
/-- What is known, as cells; no tags. -/
def knownCells (g : GeoD) (epoch : Int) (key data : ByteArray) : List Value := [.int .i64 g.blocks, .int .i64 g.lbas, .int .i64 g.first, .int .i64 epoch, .string key, .string data, .slice none 0 0]
theorem known_geo {w : World} {b : Nat} {g : GeoD} {epoch : Int} {key data : ByteArray} {t : TypeId} (h : Blk w b (knownCells g epoch key data) t) : w.rangeAt b 0 g.cells := by
  intro j v hv
  match j, hv with
  | 0, hv => simp [GeoD.cells] at hv; subst hv; exact h.cell (i := 0) rfl
  | 1, hv => simp [GeoD.cells] at hv; subst hv; exact h.cell (i := 1) rfl
  | 2, hv => simp [GeoD.cells] at hv; subst hv; exact h.cell (i := 2) rfl
  | j + 3, hv => simp [GeoD.cells] at hv
theorem known_one (g : GeoD) (epoch : Int) (key data : ByteArray) : ∀ v ∈ knownCells g epoch key data, v.oneCell' = true := by
  intro v hv; simp [knownCells] at hv; rcases hv with rfl | rfl | rfl | rfl | rfl | rfl | rfl <;> rfl
set_option maxHeartbeats 1000000 in
theorem simMay_walk (g : GeoD) (epoch : Int) (key data : ByteArray) (w : World) (hg : GeoOk g) (he0 : 0 ≤ epoch) (he : epoch - g.first ≤ 4096) :
    Calls Tryz.prog 40 #[.agg (knownCells g epoch key data).toArray] w fun e w' => e = .returned (.bool true) ∧ Below w.heap.size w w' := by
  have HG := Lib.hid hg
  have hf0 := hg.f0
  have hf1 := hg.f1
  clear hg
  go_enter Tryz.func40, Tryz.ntmps40
  go_wp2_with (first
    | ((with_reducible refine wpList_box_new 26 (.tmp 0) (knownCells g epoch key data) (some 1) ?hgd ?ho ?hd ?hx ?_); (case hgd => rfl); (case ho => rfl); (case hd => rfl); (case hx => rfl); (intro b1 w1 l1 B1 e1 z1))
    | ((with_reducible refine wpList_load_met 23 (.tmp 4) b1 0 g.cells _ (some 5) (known_geo B1) Tryz.underlying23 rfl sizeGeo ?hg ?ho ?hds ?hx ?_); (case ho => rfl); (case hg => rfl); (case hds => rfl); (case hx => rfl))
    | fail)
  have HB1 := Lib.hid B1
  have HBE := Lib.hid (e1.mono l1)
  clear B1 e1 z1 l1
  refine (geomCheck_walk g _ HG.out).mono ?_
  rintro e w2 ⟨rfl, hb2⟩
  have HB2 := Lib.hid (HB1.out.below hb2 HB1.out.lt)
  have HBE2 := Lib.hid (HBE.out.trans (hb2.mono HBE.out.size))
  clear hb2
  have q2 := HB2.out.cell (i := 2) rfl
  have q3 := HB2.out.cell (i := 3) rfl
  have q6 := HB2.out.cell (i := 6) rfl
  by_cases hle : g.first ≤ epoch
  · go_wp2_with fail
    refine (containsNil_walk _ none 0 _).mono ?_
    rintro e w' ⟨rfl, rfl⟩
    go_wp2_with fail
    go_ret
    exact ⟨rfl, HBE2.out⟩
  · go_wp2_with fail
    refine (containsNil_walk _ none 0 _).mono ?_
    rintro e w' ⟨rfl, rfl⟩
    go_wp2_with fail
    go_ret
    exact ⟨rfl, HBE2.out⟩
theorem simTags0 (below : Int) (w : World) :
    Calls Tryz.prog 47 #[.slice none 0 0, .int .i64 below] w fun e w' => e = .returned (.slice none 0 0) ∧ w = w' := by
  go_enter Tryz.func47, Tryz.ntmps47
  go_wp2_with fail
  go_loopw [5, 10] (fun o v wr => o = .slice none 0 0 ∧ v = .int .i64 0 ∧ w = wr) (fun _ _ _ => 0)
  case atStart => exact ⟨rfl, rfl, rfl⟩
  case round =>
    obtain ⟨rfl, rfl, rfl⟩ := hrel
    go_wp2_with fail
    go_ret
    exact ⟨rfl, rfl⟩
theorem simPlay0 (dv vv fv : Value) (p : Option Addr) (c : Nat) (w : World) :
    Calls Tryz.prog 42 #[dv, vv, fv, .slice p 0 c] w fun e w' => e = .returned (.tuple #[vv, .int .i64 0]) ∧ w = w' := by
  go_enter Tryz.func42, Tryz.ntmps42
  go_wp2_with fail
  go_loopw [1, 16] (fun o v wr => o = vv ∧ v = .int .i64 0 ∧ w = wr) (fun _ _ _ => 0)
  case atStart => exact ⟨rfl, rfl, rfl⟩
  case round =>
    obtain ⟨rfl, rfl, rfl⟩ := hrel
    go_wp2_with fail
    go_ret2
    exact ⟨rfl, rfl⟩
theorem sizeShown {a b c d e f : Value} : (Tryz.prog.info? 35).map (·.size) = some [a, b, c, d, e, f].length := by kernel_rfl
def shown0 : List Value := [.slice none 0 0, .slice none 0 0, .int .i64 0, .string ⟨#[]⟩, .string ⟨#[]⟩, .slice none 0 0]
theorem zeroShown (w : World) : Sem.run Tryz.prog (zeroValue 35) w = .ok (.agg shown0.toArray) w := by kernel_rfl
theorem shown_one (p1 p2 : Option Addr) (n1 c1 n2 c2 : Nat) (e : Int) (k d : ByteArray) : ∀ v ∈ ([.slice p1 n1 c1, .slice p2 n2 c2, .int .i64 e, .string k, .string d, .slice none 0 0] : List Value), v.oneCell' = true := by
  intro v hv; simp at hv; rcases hv with rfl | rfl | rfl | rfl | rfl | rfl <;> rfl
set_option maxHeartbeats 2000000 in
/-- Seize, of a volume without records. -/
theorem simSeize0 (db : Nat) (vv : Value) (d : DiskD) (epoch : Int) (key data : ByteArray) (I : World → Prop) (w : World) (h : DiskAt w db d) (hc : d.cs.length ≤ 4096) (hb : d.bs.length ≤ 1024) (hI : I w) (hIb : ∀ u u', I u → Below u.heap.size u u' → I u')
    (hsec : ∀ wx, I wx → Calls Tryz.prog 21 #[vv] wx fun e w' => e = .returned (.tuple #[.int .i64 epoch, .string key, .string data]) ∧ Below wx.heap.size wx w')
    (hseal : ∀ wx, I wx → Calls Tryz.prog 27 #[vv] wx fun e w' => e = .returned (.slice none 0 0) ∧ Below wx.heap.size wx w') :
    Calls Tryz.prog 16 #[.pointer (some ⟨db, 0, none⟩), vv] w fun e w' => (∃ v1 v2, e = .returned (.agg #[v1, v2, .int .i64 epoch, .string key, .string data, .slice none 0 0]) ∧ w'.ownsRow w.heap.size 9 1 v1 d.bs.length (d.bs.map .string) ∧ w'.ownsRow w.heap.size 129 2 v2 d.cs.length (flatP d.cs)) ∧ Below w.heap.size w w' := by
  have HD := Lib.hid h
  have HIw := Lib.hid hI
  have HIB := Lib.hid hIb
  have HSEC := Lib.hid hsec
  have HSEAL := Lib.hid hseal
  clear h hI hIb hsec hseal
  go_enter Tryz.func16, Tryz.ntmps16
  go_wp2_with (first
    | ((with_reducible refine wpList_alloc_new 35 _ zeroShown (some 4) ?hgd ?ho ?hd ?_); (case hgd => rfl); (case ho => rfl); (case hd => rfl); (intro b4 w1 l1 B1 e1 z1))
    | fail)
  have HB1 := Lib.hid B1
  have HBE1 := Lib.hid (e1.mono l1)
  have HL := Lib.hid l1
  clear B1 e1 z1 l1
  refine (HSEC.out _ (HIB.out _ _ HIw.out HBE1.out)).mono ?_
  rintro e w2 ⟨rfl, hb2⟩
  have HB2 := Lib.hid (HB1.out.below hb2 HB1.out.lt)
  have HBE2 := Lib.hid (HBE1.out.trans (hb2.mono HBE1.out.size))
  clear hb2
  go_wp2_with fail
  refine (dseize_walk db d _ (HD.out.below HBE2.out) hc hb).mono ?_
  rintro e w3 ⟨⟨v1, v2, rfl, ho1, ho2⟩, hb3⟩
  obtain ⟨p1, c1, rfl⟩ := own_shape ho1
  obtain ⟨p2, c2, rfl⟩ := own_shape ho2
  have HO1 := Lib.hid ho1
  have HO2 := Lib.hid ho2
  have HB3 := Lib.hid (HB2.out.below hb3 HB2.out.lt)
  have HBE3 := Lib.hid (HBE2.out.trans (hb3.mono HBE2.out.size))
  have HLT := Lib.hid HB2.out.lt
  clear hb3 ho1 ho2
  go_wp2_with fail
  refine (HSEAL.out _ (HIB.out _ _ HIw.out HBE3.out)).mono ?_
  rintro e w4 ⟨rfl, hb4⟩
  have HB4 := Lib.hid (HB3.out.below hb4 HB3.out.lt)
  have HBE4 := Lib.hid (HBE3.out.trans (hb4.mono HBE3.out.size))
  have HO14 := Lib.hid (own_below hb4 HO1.out)
  have HO24 := Lib.hid (own_below hb4 HO2.out)
  clear hb4
  go_wp2_with fail
  refine (simTags0 _ _).mono ?_
  rintro e w' ⟨rfl, rfl⟩
  go_wp2_with (first
    | ((with_reducible refine wpList_build_eq 35 ?parts [.slice p1 d.bs.length c1, .slice p2 d.cs.length c2, .int .i64 epoch, .string key, .string data, .slice none 0 0] ?hg ?ho ?hf ?_); (case hg => rfl); (case ho => rfl); (case hf => kernel_rfl))
    | ((with_reducible refine wpList_store_new 35 (.tmp 4) (.tmp 22) b4 shown0 [.slice p1 d.bs.length c1, .slice p2 d.cs.length c2, .int .i64 epoch, .string key, .string data, .slice none 0 0] 35 HB4.out rfl sizeShown (shown_one _ _ _ _ _ _ _ _ _) ?hgd ?ho ?hx ?hy ?_); (case hgd => rfl); (case ho => rfl); (case hx => rfl); (case hy => rfl); (intro w5 B5 o5))
    | fail)
  (try simp only [Exit.inBlock, Exit.then]); refine bodyPost_ret (results_cell1v rfl _ _ B5.range rfl Tryz.underlying35 rfl sizeShown) rfl ⟨⟨_, _, rfl, own_base (own_only HO14.out o5 HLT.out) HBE2.out.size, own_base (own_only HO24.out o5 HLT.out) HBE2.out.size⟩, o5.below HBE4.out HL.out⟩
end Go.Proofs.YtppdboadjefieaaGreat
