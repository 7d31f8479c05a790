/- Format (chapter 25), of a new disk; a range over a function that hands nothing on. -/
import Derived.Test.YtppdboadjefieaaGreatQ10
import Derived.RangeFuncNested
import Derived.RangeFuncBound
set_option linter.unusedSimpArgs false
set_option linter.unusedVariables false
namespace Go.Proofs.YtppdboadjefieaaGreat
open Go Go.RowKit
set_option maxRecDepth 100000

theorem wp_rangeFunc_none {P : Program} {g : Operand} {ps : Array Tmp} {assign body : Code} {Q : Exit → Act → World → Prop} {a : Act} {w : World} {gf : Nat} {lb : Array Value}
    (hg : a.eval g = .func (.func gf) #[] lb) (eg : ∀ args w, (callFunc gf args).run P w = .ok (.enter gf args) w)
    (hc : ∀ (l : Nat) (W : World), Below w.heap.size w W → Calls P gf (#[.func (.yield l) #[] #[]] ++ lb) W fun e W' => (∃ v, e = .returned v) ∧ Below W.heap.size W W')
    (hdone : ∀ (D : Nat) (W : World), w.heap.size ≤ D → Below w.heap.size w W → W.heap[D]? = some (.deferred (some [])) → Q .normal { a with defers := { target := .collected D, args := #[] } :: a.defers } W) :
    (Code.rangeFunc g ps assign body).wp P Q a w := by
  refine (wpIn_wide (n := 4)).1 ?_
  refine wpIn_rangeFunc_ownF (α := Empty) (encs := fun x => nomatch x) (Kp := fun _ _ => True) (S := fun _ => True) (Sp := fun _ => False) (N := 0) (w0 := w) rfl (by omega) hg trivial eg ?hseq (fun _ _ => trivial) (fun _ _ _ _ _ _ _ _ => trivial) (Below.refl _ _) (fun x => nomatch x)
    (fun _ W => Below w.heap.size w W) (fun _ _ _ => False) (ownFrom_below (Nat.le_refl _) (Nat.le_refl _)) (fun c s W W' row h => h.elim) (Below.refl _ _) (fun x => nomatch x) (fun l x => nomatch x) (fun l pre x => nomatch x) (fun D xs W h1 _ h2 h3 => hdone D W h1 h2 h3) (fun D c pre W _ h => h.elim)
  case hseq =>
    intro l J Jx W hW hJ hJx hY h0
    exact callsIn_wide.2 ((hc l W hW).mono (fun e W' h => ⟨h.1, .inl ⟨[], trivial, hJ [] W W' none h0 (below_grown h.2) (fun r e => by cases e)⟩⟩))
def endM (P : Program) (fn : Func) (R : Ending → World → Prop) : Exit → Act → World → Prop
  | .normal, a, w | .ret, a, w => LeavesInM Fence.wide 4 P fn a.tmps R a.defers .returning w
  | _, _, _ => False
theorem calls_marks {P : Program} {f : FuncId} {fn : Func} {c : Code} {args : Array Value} {w : World} {R : Ending → World → Prop} (hf : P.funcs[f]? = some fn) (hb : fn.body = some c)
    (h : c.wp P (endM P fn R) { tmps := args ++ Array.replicate (fn.ntmps - args.size) undef, defers := [] } w) : Calls P f args w R := by
  refine (callsIn_wide (n := 4)).1 (callsIn_of_wp_marks hf hb trivial (wpIn_wide.2 (wp_mono h ?_)) rfl)
  intro e a w he
  cases e with
  | normal => exact he
  | ret => exact he
  | _ => exact he.elim
theorem below_keeps {w w' : World} {D : Nat} {o : Obj} (h : w.heap[D]? = some o) (hb : Below w.heap.size w w') : w'.heap[D]? = some o := by
  rw [hb.block D (Array.getElem?_eq_some_iff.1 h).1, h]
theorem turned_keeps {w w' : World} {D : Nat} {o : Obj} {S : List Nat} (h : w.heap[D]? = some o) (hb : Turned S w w') (hn : D ∉ S) : w'.heap[D]? = some o := by
  rw [hb.block D (Array.getElem?_eq_some_iff.1 h).1 hn, h]
theorem zeroErr (w : World) : Sem.run Tryz.prog (zeroValue 36) w = .ok (.int .i64 0) w := by kernel_rfl
theorem zeroPJ (w : World) : Sem.run Tryz.prog (zeroValue 43) w = .ok (.pointer none) w := by kernel_rfl
theorem onePJ : (Tryz.prog.info? 43).map (·.size) = some 1 := by kernel_rfl
theorem oneErr : (Tryz.prog.info? 36).map (·.size) = some 1 := by kernel_rfl
def formDisk (n : Nat) (v : Value) (i : Nat) (kb q : ByteArray) : DiskD := ⟨v, ((List.replicate n noughtB).set i kb).set 1 q, .slice none 0 0, [], false, 0⟩
theorem newDisk_shown (n : Nat) (v : Value) (i : Nat) (h : i < n) : (newDisk n v).shown i = (⟨(List.replicate 4096 0).toArray⟩ : ByteArray) := by
  show (List.replicate n noughtB).getD i ByteArray.empty = noughtB
  simp [List.getD, h]
set_option maxHeartbeats 4000000 in
theorem format_walk (db n f : Nat) (lbas : Int) (v : Value) (key : ByteArray) (w : World) (h : DiskAt w db (newDisk n v)) (hg : GeoOk (⟨(n : Int), lbas, (f : Int)⟩ : GeoD)) (hk : key.size = 32) :
    Calls Tryz.prog 80 #[.pointer (some ⟨db, 0, none⟩), (⟨(n : Int), lbas, (f : Int)⟩ : GeoD).v, .string key] w fun e w' => e = .returned (.int .i64 0) ∧ ∃ kb q, Txt kb (keyL (f : Int) key.data.toList) ∧ Txt q (supL ⟨1, 0, f, 0, (⟨(n : Int), lbas, (f : Int)⟩ : GeoD)⟩) ∧ DiskTo w w' db (newDisk n v) (formDisk n v (2 + f % 2) kb q) := by
  have hmf : ∀ (fn : Fn) (first cap : Array Value) (w : World), (Instr.makeFunc fn first cap).run Tryz.prog w = .ok (.func fn first cap) w := fun _ _ _ _ => rfl
  have hk' : (key.size : Int) = 32 := by omega
  have HDw := Lib.hid h
  have HG := Lib.hid hg
  have HKS := Lib.hid hk
  have HN := Lib.hid (show 8 ≤ n ∧ n ≤ 1024 from ⟨by have := hg.b0; simp only at this; omega, by have := hg.b1; simp only at this; omega⟩)
  have HF := Lib.hid (show f < 4294967296 from by have := hg.f1; simp only at this; omega)
  have HBEw := Lib.hid (Below.refl w.heap.size w)
  clear h hg hk
  refine calls_marks Tryz.func80 rfl ?_
  simp only [Tryz.ntmps80, List.size_toArray, List.length_cons, List.length_nil, Nat.reduceAdd, Nat.reduceSub, Array.replicate_succ, Array.replicate_zero, List.push_toArray, List.append_toArray, List.nil_append, List.cons_append]
  go_wp2_with (first
    | ((with_reducible refine wpList_box_new 23 (.tmp 1) (GeoD.cells (⟨(n : Int), lbas, (f : Int)⟩ : GeoD)) (some 4) ?hgd ?ho ?hd ?hx ?_); (case hgd | ho | hd | hx => rfl); (intro b4 w1 l1 B1 e1 z1))
    | ((with_reducible refine wpList_alloc_one 36 (.int .i64 0) zeroErr rfl (some 6) ?hgd ?ho ?hd ?_); (case hgd | ho | hd => rfl); (intro b6 w2 l2 B2 e2 z2))
    | fail)
  have HL4 := Lib.hid l1
  have HL6 := Lib.hid (Nat.le_trans l1 (Nat.le_of_lt (Nat.lt_of_lt_of_le z1 l2)))
  have HB4w2 := Lib.hid (B1.below e2 (Nat.lt_of_lt_of_le z1 l2))
  have HB6w2 := Lib.hid B2
  have HBEw2 := Lib.hid ((e1.mono l1).trans (e2.mono HL6.out))
  have HDw2 := Lib.hid (HDw.out.below HBEw2.out)
  clear B1 B2 e1 e2 l1 l2 z1 z2
  refine wp_region_held_drew (S := fun wx => wx.rangeAt b4 0 (GeoD.cells (⟨(n : Int), lbas, (f : Int)⟩ : GeoD)) ∧ wx.cell? ⟨b4, 0, none⟩ = some (.int .i64 (n : Int))) (by kernel_rfl) (⟨HB4w2.out.drew.range, HB4w2.out.drew.cell (i := 0) rfl⟩) (fun hHeld => ?_)
  obtain ⟨wd, hwd⟩ : ∃ wd, wd = w2.drew := ⟨_, rfl⟩
  have HB4wd := Lib.hid (show Blk wd b4 (GeoD.cells (⟨(n : Int), lbas, (f : Int)⟩ : GeoD)) 23 from by rw [hwd]; exact HB4w2.out.drew)
  have HB6wd := Lib.hid (show Blk wd b6 [.int .i64 0] 36 from by rw [hwd]; exact HB6w2.out.drew)
  have HDwd := Lib.hid (show DiskAt wd db (newDisk n v) from by rw [hwd]; exact HDw2.out.below (Below.refl _ _).drew)
  have HBEwd := Lib.hid (show Below w.heap.size w wd from by rw [hwd]; exact HBEw2.out.drew)
  rw [← hwd]
  rw [← hwd] at hHeld
  clear hwd
  refine wpAnyH_take (i := 0) (v := .agg (GeoD.cells (⟨(n : Int), lbas, (f : Int)⟩ : GeoD)).toArray) rfl (by kernel_rfl) (by kernel_rfl) (by kernel_rfl) (fun _ _ _ h => h) (yieldsIf_load_mid (by rfl) 23 (.tmp 4) rfl b4 0 rfl (GeoD.cells (⟨(n : Int), lbas, (f : Int)⟩ : GeoD)) _ (fun w h => h.1) Tryz.underlying23 rfl sizeGeo) (by assumption) ?_
  (try simp only [Act.put, Array.getInternal_eq_getElem, List.getElem_toArray, List.getElem_cons_succ, List.getElem_cons_zero, List.setIfInBounds_toArray, List.set_cons_zero, List.set_cons_succ])
  refine wpAnyH_ready (rs := [1]) (by kernel_rfl) (by simp) ?_
  refine AllReadyH.cons rfl (fun K hK => ?_) AllReadyH.nil
  go_simp
  refine (geomCheck_walk (⟨(n : Int), lbas, (f : Int)⟩ : GeoD) _ HG.out).mono ?_
  rintro e w3 ⟨rfl, hb3⟩
  have HB4w3 := Lib.hid (HB4wd.out.below hb3 HB4wd.out.lt)
  have HB6w3 := Lib.hid (HB6wd.out.below hb3 HB6wd.out.lt)
  have HDw3 := Lib.hid (HDwd.out.below hb3)
  have HBEw3 := Lib.hid (HBEwd.out.trans (hb3.mono HBEwd.out.size))
  clear hb3
  (try go_wp2_with fail)
  refine hK.out _ _ (⟨HB4w3.out.range, HB4w3.out.cell (i := 0) rfl⟩) (fun hHeld2 => ?_)
  clear hK K hHeld
  have hHeld := hHeld2
  clear hHeld2
  (try simp only [Act.put, Array.getInternal_eq_getElem, List.getElem_toArray, List.getElem_cons_succ, List.getElem_cons_zero, List.setIfInBounds_toArray, List.set_cons_zero, List.set_cons_succ])
  refine wpAnyH_take (i := 2) (v := ?_) rfl (by kernel_rfl) (by kernel_rfl) (by kernel_rfl) (fun _ _ _ h => h) (Or.inl ⟨by rfl, ?_⟩) (by assumption) ?_
  rotate_left
  · intro w hSw; (try dsimp only at hSw); go_simp; first | done | with_reducible rfl
  (try simp only [Act.put, Array.getInternal_eq_getElem, List.getElem_toArray, List.getElem_cons_succ, List.getElem_cons_zero, List.setIfInBounds_toArray, List.set_cons_zero, List.set_cons_succ])
  refine wpAnyH_take (i := 3) (v := ?_) rfl (by kernel_rfl) (by kernel_rfl) (by kernel_rfl) (fun _ _ _ h => h) (Or.inl ⟨by rfl, ?_⟩) (by assumption) ?_
  rotate_left
  · intro w hSw; (try dsimp only at hSw); go_simp; first | done | with_reducible rfl
  (try simp only [Act.put, Array.getInternal_eq_getElem, List.getElem_toArray, List.getElem_cons_succ, List.getElem_cons_zero, List.setIfInBounds_toArray, List.set_cons_zero, List.set_cons_succ])
  refine wpAnyH_take (i := 4) (v := ?_) rfl (by kernel_rfl) (by kernel_rfl) (by kernel_rfl) (fun _ _ _ h => h) (Or.inl ⟨by rfl, ?_⟩) (by assumption) ?_
  rotate_left
  · intro w hSw; (try dsimp only at hSw); go_simp; first | done | with_reducible rfl
  (try simp only [Act.put, Array.getInternal_eq_getElem, List.getElem_toArray, List.getElem_cons_succ, List.getElem_cons_zero, List.setIfInBounds_toArray, List.set_cons_zero, List.set_cons_succ])
  refine wpAnyH_take (i := 5) (v := ?_) rfl (by kernel_rfl) (by kernel_rfl) (by kernel_rfl) (fun _ _ _ h => h) (Or.inl ⟨by rfl, ?_⟩) (by assumption) ?_
  rotate_left
  · intro w hSw; (try dsimp only at hSw); go_simp; first | done | with_reducible rfl
  (try simp only [Act.put, Array.getInternal_eq_getElem, List.getElem_toArray, List.getElem_cons_succ, List.getElem_cons_zero, List.setIfInBounds_toArray, List.set_cons_zero, List.set_cons_succ])
  refine wpAnyH_take (i := 6) (v := ?_) rfl (by kernel_rfl) (by kernel_rfl) (by kernel_rfl) (fun _ _ _ h => h) (Or.inl ⟨by rfl, ?_⟩) (by assumption) ?_
  rotate_left
  · intro w hSw; (try dsimp only at hSw); go_simp; first | done | with_reducible rfl
  (try simp only [Act.put, Array.getInternal_eq_getElem, List.getElem_toArray, List.getElem_cons_succ, List.getElem_cons_zero, List.setIfInBounds_toArray, List.set_cons_zero, List.set_cons_succ])
  refine wpAnyH_take (i := 7) (v := ?_) rfl (by kernel_rfl) (by kernel_rfl) (by kernel_rfl) (fun _ _ _ h => h) (Or.inl ⟨by rfl, ?_⟩) (by assumption) ?_
  rotate_left
  · intro w hSw; (try dsimp only at hSw); go_simp; first | done | with_reducible rfl
  (try simp only [Act.put, Array.getInternal_eq_getElem, List.getElem_toArray, List.getElem_cons_succ, List.getElem_cons_zero, List.setIfInBounds_toArray, List.set_cons_zero, List.set_cons_succ])
  refine wpAnyH_take (i := 8) (v := ?_) rfl (by kernel_rfl) (by kernel_rfl) (by kernel_rfl) (fun _ _ _ h => h) (Or.inl ⟨by rfl, ?_⟩) (by assumption) ?_
  rotate_left
  · intro w hSw; (try dsimp only at hSw); go_simp; first | done | with_reducible rfl
  (try simp only [Act.put, Array.getInternal_eq_getElem, List.getElem_toArray, List.getElem_cons_succ, List.getElem_cons_zero, List.setIfInBounds_toArray, List.set_cons_zero, List.set_cons_succ])
  refine wpAnyH_take (i := 9) (v := ?_) rfl (by kernel_rfl) (by kernel_rfl) (by kernel_rfl) (fun _ _ _ h => h) (Or.inl ⟨by rfl, ?_⟩) (by assumption) ?_
  rotate_left
  · intro w hSw; (try dsimp only at hSw); go_simp; first | done | with_reducible rfl
  (try simp only [Act.put, Array.getInternal_eq_getElem, List.getElem_toArray, List.getElem_cons_succ, List.getElem_cons_zero, List.setIfInBounds_toArray, List.set_cons_zero, List.set_cons_succ])
  refine wpAnyH_take (i := 11) (v := ?_) rfl (by kernel_rfl) (by kernel_rfl) (by kernel_rfl) (fun _ _ _ h => h) (Or.inl ⟨by rfl, ?_⟩) (by assumption) ?_
  rotate_left
  · intro w hSw; (try dsimp only at hSw); go_simp; first | done | with_reducible rfl
  (try simp only [Act.put, Array.getInternal_eq_getElem, List.getElem_toArray, List.getElem_cons_succ, List.getElem_cons_zero, List.setIfInBounds_toArray, List.set_cons_zero, List.set_cons_succ])
  refine wpAnyH_take (i := 12) (v := ?_) rfl (by kernel_rfl) (by kernel_rfl) (by kernel_rfl) (fun _ _ _ h => h) (Or.inl ⟨by rfl, ?_⟩) (by assumption) ?_
  rotate_left
  · intro w hSw; (try dsimp only at hSw); go_simp; first | done | with_reducible rfl
  (try simp only [Act.put, Array.getInternal_eq_getElem, List.getElem_toArray, List.getElem_cons_succ, List.getElem_cons_zero, List.setIfInBounds_toArray, List.set_cons_zero, List.set_cons_succ])
  refine wpAnyH_ready (rs := [10]) (by kernel_rfl) (by simp) ?_
  refine AllReadyH.cons rfl (fun K hK => ?_) AllReadyH.nil
  go_simp
  refine (dsize_walk db _ _ HDw3.out).mono ?_
  rintro e w' ⟨rfl, rfl⟩
  rw [show ((newDisk n v).bs.length : Int) = (n : Int) from by rw [show (newDisk n v).bs = List.replicate n noughtB from rfl, List.length_replicate]]
  (try go_wp2_with fail)
  refine hK.out _ _ (⟨HB4w3.out.range, HB4w3.out.cell (i := 0) rfl⟩) (fun hHeld2 => ?_)
  clear hK K hHeld
  have hHeld := hHeld2
  clear hHeld2
  (try simp only [Act.put, Array.getInternal_eq_getElem, List.getElem_toArray, List.getElem_cons_succ, List.getElem_cons_zero, List.setIfInBounds_toArray, List.set_cons_zero, List.set_cons_succ])
  refine wpAnyH_take (i := 13) (v := ?_) rfl (by kernel_rfl) (by kernel_rfl) (by kernel_rfl) (fun _ _ _ h => h) (Or.inl ⟨by rfl, ?_⟩) (by assumption) ?_
  rotate_left
  · intro w hSw; (try dsimp only at hSw); go_simp; first | done | with_reducible rfl
  (try simp only [Act.put, Array.getInternal_eq_getElem, List.getElem_toArray, List.getElem_cons_succ, List.getElem_cons_zero, List.setIfInBounds_toArray, List.set_cons_zero, List.set_cons_succ])
  refine wpAnyH_take (i := 14) (v := ?_) rfl (by kernel_rfl) (by kernel_rfl) (by kernel_rfl) (fun _ _ _ h => h) (Or.inl ⟨by rfl, ?_⟩) (by assumption) ?_
  rotate_left
  · intro w hSw; (try dsimp only at hSw); go_simp; first | done | with_reducible rfl
  (try simp only [Act.put, Array.getInternal_eq_getElem, List.getElem_toArray, List.getElem_cons_succ, List.getElem_cons_zero, List.setIfInBounds_toArray, List.set_cons_zero, List.set_cons_succ])
  refine wpAnyH_done (by kernel_rfl) ?_ _
  clear hHeld
  go_wp2_with (first
    | ((with_reducible refine wpList_build_eq 137 ?parts (jourCells (.pointer none) db .zero) ?hg ?ho ?hf ?_); (case hg | ho => rfl); (case hf => exact builtJour db))
    | ((with_reducible refine wpList_box_new 137 (.tmp 29) (jourCells (.pointer none) db .zero) (some 30) ?hgd ?ho ?hd ?hx ?_); (case hgd | ho | hd | hx => rfl); (intro jb w4 l4 B4 e4 z4))
    | ((with_reducible refine wpList_alloc_one 43 (.pointer none) zeroPJ rfl (some 7) ?hgd ?ho ?hd ?_); (case hgd | ho | hd => rfl); (intro b7 w5 l5 B5 e5 z5))
    | ((with_reducible refine wpList_store_at 43 (.tmp 7) (.tmp 30) b7 0 (.pointer (some ⟨jb, 0, none⟩)) [.pointer none] 43 B5 (by decide) onePJ rfl ?hgd ?ho ?hx ?hy ?_); (case hgd | ho | hx | hy => rfl); (intro w6 B6 o6))
    | fail)
  have hw5 : w.heap.size ≤ w3.heap.size := HBEw3.out.size
  have HLJ := Lib.hid (show w.heap.size ≤ jb by omega)
  have HNE6 := Lib.hid (show b6 ≠ jb by have := HB6w3.out.lt; omega)
  have HL7 := Lib.hid (show w.heap.size ≤ b7 by omega)
  have hb6 : Below w3.heap.size w3 w6 := o6.below ((e4.mono l4).trans (e5.mono (by omega))) (by omega)
  have HB4w6 := Lib.hid (HB4w3.out.below hb6 HB4w3.out.lt)
  have HB6w6 := Lib.hid (HB6w3.out.below hb6 HB6w3.out.lt)
  have HDw6 := Lib.hid (HDw3.out.below hb6)
  have HBEw6 := Lib.hid (HBEw3.out.trans (hb6.mono HBEw3.out.size))
  have HB7w6 := Lib.hid B6
  have HJw6 := Lib.hid (o6.blk (B4.below e5 (by omega)) (by omega))
  clear hb6 B4 B5 B6 e4 e5 o6 l4 l5 z4 z5 hw5
  refine (ddown_walk db _ _ HDw6.out).mono ?_
  rintro e w7 ⟨rfl, rfl⟩
  have q0 := HB4w6.out.cell (i := 0) rfl
  go_wp2_with fail
  refine (unlike_walk db 0 (n : Int) _).mono ?_
  rintro e w8 ⟨⟨pf, pt, pd, rfl, hu⟩, hb8⟩
  have HB4w8 := Lib.hid (HB4w6.out.below hb8 HB4w6.out.lt)
  have HB6w8 := Lib.hid (HB6w6.out.below hb8 HB6w6.out.lt)
  have HB7w8 := Lib.hid (HB7w6.out.below hb8 HB7w6.out.lt)
  have HJw8 := Lib.hid (HJw6.out.below hb8 HJw6.out.lt)
  have HDw8 := Lib.hid (HDw6.out.below hb8)
  have HBEw8 := Lib.hid (HBEw6.out.trans (hb8.mono HBEw6.out.size))
  have HU := Lib.hid hu
  clear hu hb8 q0
  go_wp2_with fail
  refine wp_rangeFunc_none rfl (enters_of Tryz.func261 (by kernel_rfl) rfl) ?_ ?_
  · intro l W hW
    exact (unlike1_walk _ db pf pt pd (newDisk n v) 0 n W (HDw8.out.below hW) (HU.out.below hW) (Nat.zero_le _) (by show n ≤ (List.replicate n noughtB).length; rw [List.length_replicate]; exact Nat.le_refl _) rfl (by show 0 ≤ 4096; decide) (by show (List.replicate n noughtB).length ≤ 1024; rw [List.length_replicate]; exact HN.out.2) (fun i _ hi => newDisk_shown n v i hi)).mono (fun e W' h => ⟨⟨_, h.1⟩, h.2⟩)
  intro D w9 hD hb9 hk9
  have HLD := Lib.hid (Nat.le_trans HBEw8.out.size hD)
  have HNED := Lib.hid (show D ≠ jb by have := HJw8.out.lt; omega)
  have HB4w9 := Lib.hid (HB4w8.out.below hb9 HB4w8.out.lt)
  have HB6w9 := Lib.hid (HB6w8.out.below hb9 HB6w8.out.lt)
  have HB7w9 := Lib.hid (HB7w8.out.below hb9 HB7w8.out.lt)
  have HJw9 := Lib.hid (HJw8.out.below hb9 HJw8.out.lt)
  have HDw9 := Lib.hid (HDw8.out.below hb9)
  have HBEw9 := Lib.hid (HBEw8.out.trans (hb9.mono HBEw8.out.size))
  have HKw9 := Lib.hid hk9
  clear hD hb9 hk9
  have q2 := HB4w9.out.cell (i := 2) rfl
  go_wp2_with fail
  refine (slotsPut_walk f key _ HF.out HKS.out).mono ?_
  rintro e wk ⟨kb, rfl, tk, hbk⟩
  have HTK := Lib.hid tk
  have HB4wk := Lib.hid (HB4w9.out.below hbk HB4w9.out.lt)
  have HB6wk := Lib.hid (HB6w9.out.below hbk HB6w9.out.lt)
  have HB7wk := Lib.hid (HB7w9.out.below hbk HB7w9.out.lt)
  have HJwk := Lib.hid (HJw9.out.below hbk HJw9.out.lt)
  have HDwk := Lib.hid (HDw9.out.below hbk)
  have HBEwk := Lib.hid (HBEw9.out.trans (hbk.mono HBEw9.out.size))
  have HKwk := Lib.hid (below_keeps HKw9.out hbk)
  clear tk hbk q2
  go_wp2_with fail
  refine wp_region_held_drew (S := fun wx => wx.cell? ⟨b4, 2, none⟩ = some (.int .i64 (f : Int)) ∧ wx.cell? ⟨b7, 0, none⟩ = some (.pointer (some ⟨jb, 0, none⟩))) (by kernel_rfl) (⟨HB4wk.out.drew.cell (i := 2) rfl, HB7wk.out.drew.cell (i := 0) rfl⟩) (fun hHeld => ?_)
  obtain ⟨we, hwe⟩ : ∃ we, we = wk.drew := ⟨_, rfl⟩
  have HB4we := Lib.hid (show Blk we b4 (GeoD.cells (⟨(n : Int), lbas, (f : Int)⟩ : GeoD)) 23 from by rw [hwe]; exact HB4wk.out.drew)
  have HB6we := Lib.hid (show Blk we b6 [.int .i64 0] 36 from by rw [hwe]; exact HB6wk.out.drew)
  have HB7we := Lib.hid (show Blk we b7 [.pointer (some ⟨jb, 0, none⟩)] 43 from by rw [hwe]; exact HB7wk.out.drew)
  have HJwe := Lib.hid (show Blk we jb (jourCells (.pointer none) db .zero) 137 from by rw [hwe]; exact HJwk.out.drew)
  have HDwe := Lib.hid (show DiskAt we db (newDisk n v) from by rw [hwe]; exact HDwk.out.below (Below.refl _ _).drew)
  have HBEwe := Lib.hid (show Below w.heap.size w we from by rw [hwe]; exact HBEwk.out.drew)
  have HKwe := Lib.hid (show we.heap[D]? = some (.deferred (some [])) from by rw [hwe]; exact HKwk.out)
  rw [← hwe]
  rw [← hwe] at hHeld
  clear hwe
  refine wpAnyH_take (i := 0) (v := ?_) rfl (by kernel_rfl) (by kernel_rfl) (by kernel_rfl) (fun _ _ _ h => h) (Or.inl ⟨by rfl, ?_⟩) (by assumption) ?_
  rotate_left
  · intro w hSw; (try dsimp only at hSw); go_simp; first | done | with_reducible rfl
  (try simp only [Act.put, Array.getInternal_eq_getElem, List.getElem_toArray, List.getElem_cons_succ, List.getElem_cons_zero, List.setIfInBounds_toArray, List.set_cons_zero, List.set_cons_succ])
  refine wpAnyH_take (i := 1) (v := ?_) rfl (by kernel_rfl) (by kernel_rfl) (by kernel_rfl) (fun _ _ _ h => h) (Or.inl ⟨by rfl, ?_⟩) (by assumption) ?_
  rotate_left
  · intro w hSw; (try dsimp only at hSw); go_simp; first | done | with_reducible rfl
  (try simp only [Act.put, Array.getInternal_eq_getElem, List.getElem_toArray, List.getElem_cons_succ, List.getElem_cons_zero, List.setIfInBounds_toArray, List.set_cons_zero, List.set_cons_succ])
  refine wpAnyH_take (i := 2) (v := ?_) rfl (by kernel_rfl) (by kernel_rfl) (by kernel_rfl) (fun _ _ _ h => h) (Or.inl ⟨by rfl, ?_⟩) (by assumption) ?_
  rotate_left
  · intro w hSw; (try dsimp only at hSw); go_simp; first | done | with_reducible rfl
  (try simp only [Act.put, Array.getInternal_eq_getElem, List.getElem_toArray, List.getElem_cons_succ, List.getElem_cons_zero, List.setIfInBounds_toArray, List.set_cons_zero, List.set_cons_succ])
  refine wpAnyH_take (i := 3) (v := ?_) rfl (by kernel_rfl) (by kernel_rfl) (by kernel_rfl) (fun _ _ _ h => h) (Or.inl ⟨by rfl, ?_⟩) (by assumption) ?_
  rotate_left
  · intro w hSw; (try dsimp only at hSw); go_simp; first | done | with_reducible rfl
  (try simp only [Act.put, Array.getInternal_eq_getElem, List.getElem_toArray, List.getElem_cons_succ, List.getElem_cons_zero, List.setIfInBounds_toArray, List.set_cons_zero, List.set_cons_succ])
  refine wpAnyH_take (i := 4) (v := ?_) rfl (by kernel_rfl) (by kernel_rfl) (by kernel_rfl) (fun _ _ _ h => h) (Or.inl ⟨by rfl, ?_⟩) (by assumption) ?_
  rotate_left
  · intro w hSw; (try dsimp only at hSw); go_simp; first | done | with_reducible rfl
  (try simp only [Act.put, Array.getInternal_eq_getElem, List.getElem_toArray, List.getElem_cons_succ, List.getElem_cons_zero, List.setIfInBounds_toArray, List.set_cons_zero, List.set_cons_succ])
  refine wpAnyH_take (i := 5) (v := ?_) rfl (by kernel_rfl) (by kernel_rfl) (by kernel_rfl) (fun _ _ _ h => h) (Or.inl ⟨by rfl, ?_⟩) (by assumption) ?_
  rotate_left
  · intro w hSw; (try dsimp only at hSw); go_simp; first | done | with_reducible rfl
  (try simp only [Act.put, Array.getInternal_eq_getElem, List.getElem_toArray, List.getElem_cons_succ, List.getElem_cons_zero, List.setIfInBounds_toArray, List.set_cons_zero, List.set_cons_succ])
  refine wpAnyH_take (i := 7) (v := ?_) rfl (by kernel_rfl) (by kernel_rfl) (by kernel_rfl) (fun _ _ _ h => h) (Or.inl ⟨by rfl, ?_⟩) (by assumption) ?_
  rotate_left
  · intro w hSw; (try dsimp only at hSw); go_simp; first | done | with_reducible rfl
  (try simp only [Act.put, Array.getInternal_eq_getElem, List.getElem_toArray, List.getElem_cons_succ, List.getElem_cons_zero, List.setIfInBounds_toArray, List.set_cons_zero, List.set_cons_succ])
  refine wpAnyH_take (i := 9) (v := ?_) rfl (by kernel_rfl) (by kernel_rfl) (by kernel_rfl) (fun _ _ _ h => h) (Or.inl ⟨by rfl, ?_⟩) (by assumption) ?_
  rotate_left
  · intro w hSw; (try dsimp only at hSw); go_simp; first | done | with_reducible rfl
  (try simp only [Act.put, Array.getInternal_eq_getElem, List.getElem_toArray, List.getElem_cons_succ, List.getElem_cons_zero, List.setIfInBounds_toArray, List.set_cons_zero, List.set_cons_succ])
  refine wpAnyH_take (i := 10) (v := ?_) rfl (by kernel_rfl) (by kernel_rfl) (by kernel_rfl) (fun _ _ _ h => h) (Or.inl ⟨by rfl, ?_⟩) (by assumption) ?_
  rotate_left
  · intro w hSw; (try dsimp only at hSw); go_simp; first | done | with_reducible rfl
  (try simp only [Act.put, Array.getInternal_eq_getElem, List.getElem_toArray, List.getElem_cons_succ, List.getElem_cons_zero, List.setIfInBounds_toArray, List.set_cons_zero, List.set_cons_succ])
  refine wpAnyH_ready (rs := [6]) (by kernel_rfl) (by simp) ?_
  refine AllReadyH.cons rfl (fun K hK => ?_) AllReadyH.nil
  go_simp
  refine (geomKey_walk (f : Int) _ (by omega)).mono ?_
  rintro e w' ⟨rfl, rfl⟩
  (try go_wp2_with fail)
  refine hK.out _ _ (⟨HB4we.out.cell (i := 2) rfl, HB7we.out.cell (i := 0) rfl⟩) (fun hHeld2 => ?_)
  clear hK K hHeld
  have hHeld := hHeld2
  clear hHeld2
  (try simp only [Act.put, Array.getInternal_eq_getElem, List.getElem_toArray, List.getElem_cons_succ, List.getElem_cons_zero, List.setIfInBounds_toArray, List.set_cons_zero, List.set_cons_succ])
  refine wpAnyH_ready (rs := [8]) (by kernel_rfl) (by simp) ?_
  refine AllReadyH.cons rfl (fun K hK => ?_) AllReadyH.nil
  go_simp
  refine (jwrite_walk jb (2 + (f : Int) % 2) kb _).mono ?_
  rintro e wa ⟨⟨p3, p4, p5, rfl, hst, g3, g4, g5⟩, hb6⟩
  have HB4wa := Lib.hid (HB4we.out.below hb6 HB4we.out.lt)
  have HB6wa := Lib.hid (HB6we.out.below hb6 HB6we.out.lt)
  have HB7wa := Lib.hid (HB7we.out.below hb6 HB7we.out.lt)
  have HJwa := Lib.hid (HJwe.out.below hb6 HJwe.out.lt)
  have HDwa := Lib.hid (HDwe.out.below hb6)
  have HBEwa := Lib.hid (HBEwe.out.trans (hb6.mono HBEwe.out.size))
  have HSTa := Lib.hid hst
  have HGE := Lib.hid (And.intro g3 (And.intro g4 g5))
  have HLa := Lib.hid hb6.size
  have HKwa := Lib.hid (below_keeps HKwe.out hb6)
  clear hst g3 g4 g5 hb6
  (try go_wp2_with fail)
  refine hK.out _ _ (⟨HB4wa.out.cell (i := 2) rfl, HB7wa.out.cell (i := 0) rfl⟩) (fun hHeld2 => ?_)
  clear hK K hHeld
  have hHeld := hHeld2
  clear hHeld2
  (try simp only [Act.put, Array.getInternal_eq_getElem, List.getElem_toArray, List.getElem_cons_succ, List.getElem_cons_zero, List.setIfInBounds_toArray, List.set_cons_zero, List.set_cons_succ])
  refine wpAnyH_ready (rs := [11]) (by kernel_rfl) (by simp) ?_
  refine AllReadyH.cons rfl (fun K hK => ?_) AllReadyH.nil
  go_simp
  obtain ⟨wb, hwb⟩ : ∃ wb, wb = wa.alloc (Obj.cells #[.func (.func 151) #[.pointer (some ⟨db, 0, none⟩)] #[], .func (.func 237) #[] #[.pointer (some ⟨p3, 0, none⟩), .pointer (some ⟨p4, 0, none⟩), .pointer (some ⟨p5, 0, none⟩)], .func (.func 151) #[.pointer (some ⟨db, 0, none⟩)] #[]] 167) := ⟨_, rfl⟩
  rw [← hwb]
  have hb7 : Below wa.heap.size wa wb := by rw [hwb]; exact (Below.refl _ _).alloc (Nat.le_refl _) _
  have hrow : Blk wb wa.heap.size [.func (.func 151) #[.pointer (some ⟨db, 0, none⟩)] #[], .func (.func 237) #[] #[.pointer (some ⟨p3, 0, none⟩), .pointer (some ⟨p4, 0, none⟩), .pointer (some ⟨p5, 0, none⟩)], .func (.func 151) #[.pointer (some ⟨db, 0, none⟩)] #[]] 167 := by rw [hwb]; exact Blk.new wa [.func (.func 151) #[.pointer (some ⟨db, 0, none⟩)] #[], .func (.func 237) #[] #[.pointer (some ⟨p3, 0, none⟩), .pointer (some ⟨p4, 0, none⟩), .pointer (some ⟨p5, 0, none⟩)], .func (.func 151) #[.pointer (some ⟨db, 0, none⟩)] #[]] 167
  have HB4wb := Lib.hid (HB4wa.out.below hb7 HB4wa.out.lt)
  have HB6wb := Lib.hid (HB6wa.out.below hb7 HB6wa.out.lt)
  have HB7wb := Lib.hid (HB7wa.out.below hb7 HB7wa.out.lt)
  have HJwb := Lib.hid (HJwa.out.below hb7 HJwa.out.lt)
  have HDwb := Lib.hid (HDwa.out.below hb7)
  have HBEwb := Lib.hid (HBEwa.out.trans (hb7.mono HBEwa.out.size))
  have HROW := Lib.hid hrow
  have HSTb := Lib.hid (HSTa.out.below hb7)
  have HKwb := Lib.hid (below_keeps HKwa.out hb7)
  clear hrow hb7 hwb
  (try go_wp2_with fail)
  refine hK.out _ _ (⟨HB4wb.out.cell (i := 2) rfl, HB7wb.out.cell (i := 0) rfl⟩) (fun hHeld2 => ?_)
  clear hK K hHeld
  have hHeld := hHeld2
  clear hHeld2
  (try simp only [Act.put, Array.getInternal_eq_getElem, List.getElem_toArray, List.getElem_cons_succ, List.getElem_cons_zero, List.setIfInBounds_toArray, List.set_cons_zero, List.set_cons_succ])
  refine wpAnyH_ready (rs := [12]) (by kernel_rfl) (by simp) ?_
  refine AllReadyH.cons rfl (fun K hK => ?_) AllReadyH.nil
  go_simp
  refine (jsteps3_walk jb db wa.heap.size 3 p3 p4 p5 167 (newDisk n v) (2 + (f : Int) % 2) kb _ HDwb.out HROW.out (HJwb.out.cell (i := 1) rfl) HJwb.out.lt HSTb.out (by
    intro x hx hm
    have hlt := HDw.out.lt x hm
    have h1 := HGE.out
    have h2 := HLa.out
    have h3 := HBEwe.out.size
    have h4 := HLJ.out
    rcases hx with rfl | rfl | rfl | rfl | rfl <;> omega) rfl rfl (by show 0 < 4096; decide) (by show (List.replicate n noughtB).length ≤ 1024; rw [List.length_replicate]; exact HN.out.2) (by intro j p hp; simp [newDisk] at hp) (by omega) (by show _ < ((List.replicate n noughtB).length : Int); rw [List.length_replicate]; have := HN.out.1; omega) (by rw [HTK.out.size, keyL_length (by simpa using HKS.out)])).mono ?_
  rintro e wc ⟨rfl, d', hd', ht⟩
  have hnf : ∀ x, w.heap.size ≤ x → x ∉ (newDisk n v).foot db := fun x hx hm => by have := HDw.out.lt x hm; omega
  have HB4wc := Lib.hid (ht.turned.blk HB4wb.out (hnf b4 HL4.out))
  have HB6wc := Lib.hid (ht.turned.blk HB6wb.out (hnf b6 HL6.out))
  have HB7wc := Lib.hid (ht.turned.blk HB7wb.out (hnf b7 HL7.out))
  have HJwc := Lib.hid (ht.turned.blk HJwb.out (hnf jb HLJ.out))
  have HKwc := Lib.hid (turned_keeps HKwb.out ht.turned (hnf D HLD.out))
  have HT := Lib.hid ht
  subst hd'
  clear ht hnf
  (try go_wp2_with fail)
  refine hK.out _ _ (⟨HB4wc.out.cell (i := 2) rfl, HB7wc.out.cell (i := 0) rfl⟩) (fun hHeld2 => ?_)
  clear hK K hHeld
  have hHeld := hHeld2
  clear hHeld2
  (try simp only [Act.put, Array.getInternal_eq_getElem, List.getElem_toArray, List.getElem_cons_succ, List.getElem_cons_zero, List.setIfInBounds_toArray, List.set_cons_zero, List.set_cons_succ])
  refine wpAnyH_take (i := 13) (v := ?_) rfl (by kernel_rfl) (by kernel_rfl) (by kernel_rfl) (fun _ _ _ h => h) (Or.inl ⟨by rfl, ?_⟩) (by assumption) ?_
  rotate_left
  · intro w hSw; (try dsimp only at hSw); go_simp; first | done | with_reducible rfl
  (try simp only [Act.put, Array.getInternal_eq_getElem, List.getElem_toArray, List.getElem_cons_succ, List.getElem_cons_zero, List.setIfInBounds_toArray, List.set_cons_zero, List.set_cons_succ])
  refine wpAnyH_done (by kernel_rfl) ?_ _
  clear hHeld
  have q7 := HB7wc.out.cell (i := 0) rfl
  have q2 := HB4wc.out.cell (i := 2) rfl
  go_wp2_with (first
    | ((with_reducible refine wpList_load_met 23 (.tmp 4) b4 0 (GeoD.cells (⟨(n : Int), lbas, (f : Int)⟩ : GeoD)) _ (some 74) HB4wc.out.range Tryz.underlying23 rfl sizeGeo ?hg ?ho ?hds ?hx ?_); (case ho | hg | hds | hx => rfl))
    | ((with_reducible refine wpList_build_eq 135 ?parts (SupD.cells ⟨1, 0, f, 0, (⟨(n : Int), lbas, (f : Int)⟩ : GeoD)⟩) ?hg ?ho ?hf ?_); (case hg | ho => rfl); (case hf => kernel_rfl))
    | fail)
  clear q7 q2
  obtain ⟨d1, hd1⟩ : ∃ d1 : DiskD, d1 = (({ (newDisk n v).flushed with cs := [(2 + (f : Int) % 2, kb)] } : DiskD)).flushed := ⟨_, rfl⟩
  have HD1 := Lib.hid hd1
  have HTT := Lib.hid (show DiskTo wb wc db (newDisk n v) d1 from by rw [hd1]; exact HT.out)
  have x1 : d1.down = false := by rw [hd1]; rfl
  have x2 : d1.left = 0 := by rw [hd1]; rfl
  have x3 : d1.cs = [] := by rw [hd1]; rfl
  have x4 : d1.bs = (List.replicate n noughtB).set (2 + f % 2) kb := by
    rw [hd1]
    show (List.replicate n noughtB).set (2 + (f : Int) % 2).toNat kb = _
    rw [show (2 + (f : Int) % 2).toNat = 2 + f % 2 by omega]
  have x5 : d1.bs.length = n := by rw [x4, List.length_set, List.length_replicate]
  have x6 : d1.bv = v := by rw [hd1]; rfl
  have x7 : d1.cv = .slice none 0 0 := by rw [hd1]; rfl
  clear hd1 HT
  have hn := HN.out
  refine (jcommit_walk jb db (.pointer none) d1 .zero ⟨1, 0, f, 0, (⟨(n : Int), lbas, (f : Int)⟩ : GeoD)⟩ _ HTT.out.at' HJwc.out (fun hm => (HTT.out.foot jb hm).elim (fun h9 => by have := HDw.out.lt jb h9; have := HLJ.out; omega) (fun h9 => by have := HJwb.out.lt; omega))
    ⟨HG.out, (by show (1 : Int) ≤ 1; decide), (by show (1 : Int) ≤ 1152921504606846976; decide), (by show (0 : Int) ≤ 0; decide), by show (0 : Int) ≤ (n : Int) - 4; omega, Int.le_refl _, by show (f : Int) < 4294967296; have := HF.out; omega, (by show (0 : Int) ≤ 0; decide), (by show (0 : Int) ≤ 1099511627776; decide)⟩ x1 x2 (by rw [x3]; decide) (by rw [x5]; exact hn.2) (by rw [x5]; omega) (by intro j p hp; rw [x3] at hp; simp at hp)).mono ?_
  rintro e wf ⟨rfl, d2, q, hd2, tq, hat, hjf, htu, hft⟩
  have hbs := HBEwb.out.size
  have h0 := HBEwb.out
  have htc : Turned ((newDisk n v).foot db) w wc := (Turned.of_below h0 (Nat.le_refl _)).trans HTT.out.turned
  have hfc : ∀ x, x ∈ d1.foot db → x ∈ (newDisk n v).foot db ∨ w.heap.size ≤ x := fun x hx => (HTT.out.foot x hx).elim .inl (fun h9 => .inr (Nat.le_trans hbs h9))
  have htf : Turned ((newDisk n v).foot db) w wf := htc.on htu (fun x hx => by
    simp only [List.mem_cons] at hx
    rcases hx with rfl | hx
    · exact .inr HLJ.out
    · exact hfc x hx)
  have hff : ∀ x, x ∈ d2.foot db → x ∈ (newDisk n v).foot db ∨ w.heap.size ≤ x := fun x hx => (hft x hx).elim (fun h9 => hfc x h9) (fun h9 => .inr (Nat.le_trans htc.size h9))
  have x8 : d1.foot db = (newDisk n v).foot db := by unfold DiskD.foot; rw [x6, x7]; rfl
  have hn6 : ∀ x, w.heap.size ≤ x → x ≠ jb → x ∉ jb :: d1.foot db := fun x h1 h3 hm => by
    simp only [List.mem_cons] at hm
    rcases hm with rfl | hm
    · exact h3 rfl
    · rw [x8] at hm
      have := HDw.out.lt x hm
      omega
  have e2 : d2 = formDisk n v (2 + f % 2) kb q := by
    rw [hd2]
    unfold DiskD.flushed formDisk
    simp only [x3, List.nil_append, List.length_singleton, putsTo, x6, x4, x1, x2]
    rfl
  have B6f := htu.blk HB6wc.out (hn6 b6 HL6.out HNE6.out)
  have hkf := turned_keeps HKwc.out htu (hn6 D HLD.out HNED.out)
  have hsz : b6 < wf.heap.size := B6f.lt
  have hn2 : ∀ x, w.heap.size ≤ x → x ∉ (newDisk n v).foot db := fun x hx hm => by have := HDw.out.lt x hm; omega
  have hDw : D ≠ b6 := fun h9 => by
    subst h9
    have h10 := B6f
    unfold Blk at h10
    rw [h10] at hkf
    cases hkf
  go_wp2_with (first
    | ((with_reducible refine wpList_store_at 36 (.tmp 6) (.tmp 76) b6 0 (.int .i64 0) [.int .i64 0] 36 B6f (by decide) oneErr rfl ?hgd ?ho ?hx ?hy ?_); (case hgd | ho | hx | hy => rfl); (intro wg Bg og))
    | fail)
  have hkg : wg.heap[D]? = some (.deferred (some [])) := by rw [og.block D hDw]; exact hkf
  refine ⟨by simp, .inl ⟨_, _, rfl, run_takeDeferred hkg, ?_⟩⟩
  have hgw := grownBy_putObj' wg D (.deferred none)
  have htg : Turned [b6] wf wg := og.turned (by simp)
  have htz : Turned [D] wg (wg.putObj D (.deferred none)) := Turned.of_grown hgw (fun k e => by cases e; simp)
  have r6 : (wg.putObj D (.deferred none)).cell? ⟨b6, 0, none⟩ = some (.int .i64 0) := (htz.blk Bg (by simp; exact fun h9 => hDw h9.symm)).cell (i := 0) rfl
  have hn5 : ∀ x, w.heap.size ≤ x → x ≠ jb → x < wc.heap.size → x ∉ d2.foot db := fun x h1 h2 h3 hm => by
    rcases hft x hm with h9 | h9
    · exact hn6 x h1 h2 (by simp [h9])
    · omega
  have hn61 := hn5 b6 HL6.out HNE6.out HB6wc.out.lt
  have hnD1 := hn5 D HLD.out HNED.out (Array.getElem?_eq_some_iff.1 HKwc.out).1
  have hat1 : DiskAt wg db d2 := hat.turned htg (fun x hx h9 => by simp at h9; subst h9; exact hn61 hx)
  have hat2 : DiskAt (wg.putObj D (.deferred none)) db d2 := hat1.turned htz (fun x hx h9 => by simp at h9; subst h9; exact hnD1 hx)
  rw [e2] at hat2 hff
  refine ⟨.int .i64 0, ?_, rfl, kb, q, HTK.out, tq, hat2, (htf.on htg (fun x hx => by simp at hx; subst hx; exact .inr HL6.out)).on htz (fun x hx => by simp at hx; subst hx; exact .inr HLD.out), hff⟩
  simp [results, Tryz.f80, go_sem, r6]
end Go.Proofs.YtppdboadjefieaaGreat

