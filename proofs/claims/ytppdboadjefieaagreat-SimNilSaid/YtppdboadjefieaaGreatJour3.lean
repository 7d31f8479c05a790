/- A journal's commit (chapter 25), of a disk that has power. -/
import Derived.Test.YtppdboadjefieaaGreatJour2
import Derived.Test.YtppdboadjefieaaGreatSup
namespace Go.Proofs.YtppdboadjefieaaGreat
set_option linter.unusedSimpArgs false
set_option linter.unusedVariables false
open Go Go.RowKit
set_option linter.unusedVariables false
set_option maxRecDepth 100000

/-- A journal's cells. -/
def jourCells (sv : Value) (db : Nat) (last : SupD) : List Value := [sv, .pointer (some ⟨db, 0, none⟩)] ++ last.cells ++ [.bool false]
set_option maxHeartbeats 4000000 in
theorem jcommit_walk (jb db : Nat) (sv : Value) (d : DiskD) (last s : SupD) (w : World) (h : DiskAt w db d) (hj : Blk w jb (jourCells sv db last) 137) (hne : jb ∉ d.foot db) (hs : SupOk s)
    (hd : d.down = false) (hl : d.left = 0) (hc : d.cs.length < 4096) (hb : d.bs.length ≤ 1024) (hb2 : 2 ≤ d.bs.length) (hin : ∀ (j : Nat) p, d.cs[j]? = some p → 0 ≤ p.1 ∧ p.1 < d.bs.length) :
    Calls Tryz.prog 153 #[.pointer (some ⟨jb, 0, none⟩), s.v] w fun e w' => e = .returned (.int .i64 0) ∧ ∃ d' q, d' = (({ d with cs := d.cs ++ [(s.gen % 2, q)] } : DiskD)).flushed ∧ Txt q (supL s) ∧ DiskAt w' db d' ∧ Blk w' jb (jourCells sv db s) 137 ∧ Turned (jb :: d.foot db) w w' ∧ ∀ x, x ∈ d'.foot db → x ∈ d.foot db ∨ w.heap.size ≤ x := by
  have hmf : ∀ (fn : Fn) (first cap : Array Value) (w : World), (Instr.makeFunc fn first cap).run Tryz.prog w = .ok (.func fn first cap) w := fun _ _ _ _ => rfl
  have HH := Lib.hid h
  have HJ := Lib.hid hj
  have HNE := Lib.hid hne
  have HS := Lib.hid hs
  have HD := Lib.hid hd
  have HLF := Lib.hid hl
  have HC := Lib.hid hc
  have HB := Lib.hid (And.intro hb hb2)
  have HIN := Lib.hid hin
  clear h hj hne hs hd hl hc hb hb2 hin
  go_enter Tryz.func153, Tryz.ntmps153
  go_wp2_with (first
    | ((with_reducible refine wpList_box_new 135 (.tmp 1) s.cells (some 3) ?hgd ?ho ?hd ?hx ?_); (case hgd => rfl); (case ho => rfl); (case hd => rfl); (case hx => rfl); (intro b3 w1 l1 B1 e1 z1))
    | ((with_reducible refine wpList_load_met 135 (.tmp 3) b3 0 s.cells _ (some 9) B1.range Tryz.underlying135 rfl sizeSup ?hg ?ho ?hds ?hx ?_); (case ho => rfl); (case hg => rfl); (case hds => rfl); (case hx => rfl))
    | fail)
  refine (supPut_walk s _ HS.out).mono ?_
  rintro e w2 ⟨q, rfl, tq, hb2⟩
  have hb12 := (e1.mono l1).trans (hb2.mono (Nat.le_trans l1 (Nat.le_of_lt z1)))
  have HTQ := Lib.hid tq
  have HBw2 := Lib.hid (B1.below hb2 z1)
  have HL3 := Lib.hid l1
  have HJw2 := Lib.hid (HJ.out.below hb12 HJ.out.lt)
  have HDw2 := Lib.hid (HH.out.below hb12)
  have HBEw2 := Lib.hid hb12
  clear B1 e1 z1 l1 hb2 hb12 tq
  go_upto_region 4 with fail
  refine wp_region_held_drew (S := fun wx => wx.cell? ⟨b3, 0, none⟩ = some (.int .i64 s.gen) ∧ wx.cell? ⟨jb, 1, none⟩ = some (.pointer (some ⟨db, 0, none⟩))) (by kernel_rfl) (⟨HBw2.out.cell (i := 0) rfl, HJw2.out.cell (i := 1) rfl⟩) (fun hHeld => ?_)
  obtain ⟨wd, hwd⟩ : ∃ wd, wd = w2.drew := ⟨_, rfl⟩
  have HBwd := Lib.hid (show Blk wd b3 s.cells 135 from by rw [hwd]; exact HBw2.out.drew)
  have HJwd := Lib.hid (show Blk wd jb (jourCells sv db last) 137 from by rw [hwd]; exact HJw2.out.drew)
  have HDwd := Lib.hid (show DiskAt wd db d from by rw [hwd]; exact HDw2.out.below (Below.refl _ _).drew)
  have HBEwd := Lib.hid (show Below w.heap.size w wd from by rw [hwd]; exact HBEw2.out.drew)
  rw [← hwd]
  rw [← hwd] at hHeld
  clear hwd
  refine wpAnyH_take (i := 0) (v := ?_) rfl (by kernel_rfl) (by kernel_rfl) (by kernel_rfl) (fun _ _ _ h => h) (Or.inl ⟨by rfl, ?_⟩) (by assumption) ?_
  rotate_left
  · intro w hSw; (try dsimp only at hSw); go_simp; first | done | with_reducible rfl
  (try simp only [Act.put, Array.getInternal_eq_getElem, List.getElem_toArray, List.getElem_cons_succ, List.getElem_cons_zero, List.setIfInBounds_toArray, List.set_cons_zero, List.set_cons_succ])
  refine wpAnyH_take (i := 1) (v := ?_) rfl (by kernel_rfl) (by kernel_rfl) (by kernel_rfl) (fun _ _ _ h => h) (Or.inl ⟨by rfl, ?_⟩) (by assumption) ?_
  rotate_left
  · intro w hSw; (try dsimp only at hSw); go_simp; first | done | with_reducible rfl
  (try simp only [Act.put, Array.getInternal_eq_getElem, List.getElem_toArray, List.getElem_cons_succ, List.getElem_cons_zero, List.setIfInBounds_toArray, List.set_cons_zero, List.set_cons_succ])
  refine wpAnyH_take (i := 2) (v := ?_) rfl (by kernel_rfl) (by kernel_rfl) (by kernel_rfl) (fun _ _ _ h => h) (Or.inl ⟨by rfl, ?_⟩) (by assumption) ?_
  rotate_left
  · intro w hSw; (try dsimp only at hSw); go_simp; first | done | with_reducible rfl
  (try simp only [Act.put, Array.getInternal_eq_getElem, List.getElem_toArray, List.getElem_cons_succ, List.getElem_cons_zero, List.setIfInBounds_toArray, List.set_cons_zero, List.set_cons_succ])
  refine wpAnyH_take (i := 3) (v := ?_) rfl (by kernel_rfl) (by kernel_rfl) (by kernel_rfl) (fun _ _ _ h => h) (Or.inl ⟨by rfl, ?_⟩) (by assumption) ?_
  rotate_left
  · intro w hSw; (try dsimp only at hSw); go_simp; first | done | with_reducible rfl
  (try simp only [Act.put, Array.getInternal_eq_getElem, List.getElem_toArray, List.getElem_cons_succ, List.getElem_cons_zero, List.setIfInBounds_toArray, List.set_cons_zero, List.set_cons_succ])
  refine wpAnyH_take (i := 5) (v := ?_) rfl (by kernel_rfl) (by kernel_rfl) (by kernel_rfl) (fun _ _ _ h => h) (Or.inl ⟨by rfl, ?_⟩) (by assumption) ?_
  rotate_left
  · intro w hSw; (try dsimp only at hSw); go_simp; first | done | with_reducible rfl
  (try simp only [Act.put, Array.getInternal_eq_getElem, List.getElem_toArray, List.getElem_cons_succ, List.getElem_cons_zero, List.setIfInBounds_toArray, List.set_cons_zero, List.set_cons_succ])
  refine wpAnyH_take (i := 7) (v := ?_) rfl (by kernel_rfl) (by kernel_rfl) (by kernel_rfl) (fun _ _ _ h => h) (Or.inl ⟨by rfl, ?_⟩) (by assumption) ?_
  rotate_left
  · intro w hSw; (try dsimp only at hSw); go_simp; first | done | with_reducible rfl
  (try simp only [Act.put, Array.getInternal_eq_getElem, List.getElem_toArray, List.getElem_cons_succ, List.getElem_cons_zero, List.setIfInBounds_toArray, List.set_cons_zero, List.set_cons_succ])
  refine wpAnyH_take (i := 8) (v := ?_) rfl (by kernel_rfl) (by kernel_rfl) (by kernel_rfl) (fun _ _ _ h => h) (Or.inl ⟨by rfl, ?_⟩) (by assumption) ?_
  rotate_left
  · intro w hSw; (try dsimp only at hSw); go_simp; first | done | with_reducible rfl
  (try simp only [Act.put, Array.getInternal_eq_getElem, List.getElem_toArray, List.getElem_cons_succ, List.getElem_cons_zero, List.setIfInBounds_toArray, List.set_cons_zero, List.set_cons_succ])
  refine wpAnyH_take (i := 9) (v := ?_) rfl (by kernel_rfl) (by kernel_rfl) (by kernel_rfl) (fun _ _ _ h => h) (Or.inl ⟨by rfl, ?_⟩) (by assumption) ?_
  rotate_left
  · intro w hSw; (try dsimp only at hSw); go_simp; first | done | with_reducible rfl
  (try simp only [Act.put, Array.getInternal_eq_getElem, List.getElem_toArray, List.getElem_cons_succ, List.getElem_cons_zero, List.setIfInBounds_toArray, List.set_cons_zero, List.set_cons_succ])
  refine wpAnyH_take (i := 10) (v := ?_) rfl (by kernel_rfl) (by kernel_rfl) (by kernel_rfl) (fun _ _ _ h => h) (Or.inl ⟨by rfl, ?_⟩) (by assumption) ?_
  rotate_left
  · intro w hSw; (try dsimp only at hSw); go_simp; first | done | with_reducible rfl
  (try simp only [Act.put, Array.getInternal_eq_getElem, List.getElem_toArray, List.getElem_cons_succ, List.getElem_cons_zero, List.setIfInBounds_toArray, List.set_cons_zero, List.set_cons_succ])
  refine wpAnyH_take (i := 11) (v := ?_) rfl (by kernel_rfl) (by kernel_rfl) (by kernel_rfl) (fun _ _ _ h => h) (Or.inl ⟨by rfl, ?_⟩) (by assumption) ?_
  rotate_left
  · intro w hSw; (try dsimp only at hSw); go_simp; first | done | with_reducible rfl
  (try simp only [Act.put, Array.getInternal_eq_getElem, List.getElem_toArray, List.getElem_cons_succ, List.getElem_cons_zero, List.setIfInBounds_toArray, List.set_cons_zero, List.set_cons_succ])
  refine wpAnyH_ready (rs := [4]) (by kernel_rfl) (by simp) ?_
  refine AllReadyH.cons rfl (fun K hK => ?_) AllReadyH.nil
  go_simp
  refine (geomSuper_walk s.gen _ (by have := HS.out.g0; omega)).mono ?_
  rintro e w' ⟨rfl, rfl⟩
  (try go_wp2_with fail)
  refine hK.out _ _ (⟨HBwd.out.cell (i := 0) rfl, HJwd.out.cell (i := 1) rfl⟩) (fun hHeld2 => ?_)
  clear hK K hHeld
  have hHeld := hHeld2
  clear hHeld2
  (try simp only [Act.put, Array.getInternal_eq_getElem, List.getElem_toArray, List.getElem_cons_succ, List.getElem_cons_zero, List.setIfInBounds_toArray, List.set_cons_zero, List.set_cons_succ])
  refine wpAnyH_ready (rs := [6]) (by kernel_rfl) (by simp) ?_
  refine AllReadyH.cons rfl (fun K hK => ?_) AllReadyH.nil
  go_simp
  refine (jwrite_walk jb (s.gen % 2) q _).mono ?_
  rintro e wa ⟨⟨p3, p4, p5, rfl, hst, g3, g4, g5⟩, hb6⟩
  have HBwa := Lib.hid (HBwd.out.below hb6 HBwd.out.lt)
  have HJwa := Lib.hid (HJwd.out.below hb6 HJwd.out.lt)
  have HDwa := Lib.hid (HDwd.out.below hb6)
  have HBEwa := Lib.hid (HBEwd.out.trans (hb6.mono HBEwd.out.size))
  have HSTa := Lib.hid hst
  have HGE := Lib.hid (And.intro g3 (And.intro g4 g5))
  have HLa := Lib.hid hb6.size
  clear hst g3 g4 g5 hb6
  (try go_wp2_with fail)
  refine hK.out _ _ (⟨HBwa.out.cell (i := 0) rfl, HJwa.out.cell (i := 1) rfl⟩) (fun hHeld2 => ?_)
  clear hK K hHeld
  have hHeld := hHeld2
  clear hHeld2
  (try simp only [Act.put, Array.getInternal_eq_getElem, List.getElem_toArray, List.getElem_cons_succ, List.getElem_cons_zero, List.setIfInBounds_toArray, List.set_cons_zero, List.set_cons_succ])
  refine wpAnyH_ready (rs := [12]) (by kernel_rfl) (by simp) ?_
  refine AllReadyH.cons rfl (fun K hK => ?_) AllReadyH.nil
  go_simp
  obtain ⟨wb, hwb⟩ : ∃ wb, wb = wa.alloc (Obj.cells #[.func (.func 237) #[] #[.pointer (some ⟨p3, 0, none⟩), .pointer (some ⟨p4, 0, none⟩), .pointer (some ⟨p5, 0, none⟩)], .func (.func 151) #[.pointer (some ⟨db, 0, none⟩)] #[]] 167) := ⟨_, rfl⟩
  rw [← hwb]
  have hb7 : Below wa.heap.size wa wb := by rw [hwb]; exact (Below.refl _ _).alloc (Nat.le_refl _) _
  have hrow : Blk wb wa.heap.size [.func (.func 237) #[] #[.pointer (some ⟨p3, 0, none⟩), .pointer (some ⟨p4, 0, none⟩), .pointer (some ⟨p5, 0, none⟩)], .func (.func 151) #[.pointer (some ⟨db, 0, none⟩)] #[]] 167 := by rw [hwb]; exact Blk.new wa [.func (.func 237) #[] #[.pointer (some ⟨p3, 0, none⟩), .pointer (some ⟨p4, 0, none⟩), .pointer (some ⟨p5, 0, none⟩)], .func (.func 151) #[.pointer (some ⟨db, 0, none⟩)] #[]] 167
  have HBwb := Lib.hid (HBwa.out.below hb7 HBwa.out.lt)
  have HJwb := Lib.hid (HJwa.out.below hb7 HJwa.out.lt)
  have HDwb := Lib.hid (HDwa.out.below hb7)
  have HBEwb := Lib.hid (HBEwa.out.trans (hb7.mono HBEwa.out.size))
  have HROW := Lib.hid hrow
  have HSTb := Lib.hid (HSTa.out.below hb7)
  clear hrow hb7 hwb
  (try go_wp2_with fail)
  refine hK.out _ _ (⟨HBwb.out.cell (i := 0) rfl, HJwb.out.cell (i := 1) rfl⟩) (fun hHeld2 => ?_)
  clear hK K hHeld
  have hHeld := hHeld2
  clear hHeld2
  (try simp only [Act.put, Array.getInternal_eq_getElem, List.getElem_toArray, List.getElem_cons_succ, List.getElem_cons_zero, List.setIfInBounds_toArray, List.set_cons_zero, List.set_cons_succ])
  refine wpAnyH_ready (rs := [13]) (by kernel_rfl) (by simp) ?_
  refine AllReadyH.cons rfl (fun K hK => ?_) AllReadyH.nil
  go_simp
  refine (jsteps2_walk jb db wa.heap.size 2 p3 p4 p5 167 d (s.gen % 2) q _ HDwb.out HROW.out (HJwb.out.cell (i := 1) rfl) HJwb.out.lt HSTb.out (by
    intro x hx hm
    have hlt := HDwd.out.lt x hm
    have h1 := HGE.out
    have h2 := HLa.out
    rcases hx with rfl | rfl | rfl | rfl | rfl
    · omega
    · exact HNE.out hm
    · omega
    · omega
    · omega) HD.out HLF.out HC.out HB.out.1 HIN.out (by have := HS.out.g0; omega) (by have := HB.out.2; omega) (by rw [HTQ.out.size, supL_length])).mono ?_
  rintro e wc ⟨rfl, d', hd', ht⟩
  have HB3N := Lib.hid (show b3 ∉ d.foot db from fun hm => by have := HH.out.lt b3 hm; have := HL3.out; omega)
  have HBwc := Lib.hid (ht.turned.blk HBwb.out HB3N.out)
  have HJwc := Lib.hid (ht.turned.blk HJwb.out HNE.out)
  have HT := Lib.hid ht
  have HDD := Lib.hid hd'
  clear ht hd'
  (try go_wp2_with fail)
  refine hK.out _ _ (⟨HBwc.out.cell (i := 0) rfl, HJwc.out.cell (i := 1) rfl⟩) (fun hHeld2 => ?_)
  clear hK K hHeld
  have hHeld := hHeld2
  clear hHeld2
  (try simp only [Act.put, Array.getInternal_eq_getElem, List.getElem_toArray, List.getElem_cons_succ, List.getElem_cons_zero, List.setIfInBounds_toArray, List.set_cons_zero, List.set_cons_succ])
  refine wpAnyH_take (i := 14) (v := ?_) rfl (by kernel_rfl) (by kernel_rfl) (by kernel_rfl) (fun _ _ _ h => h) (Or.inl ⟨by rfl, ?_⟩) (by assumption) ?_
  rotate_left
  · intro w hSw; (try dsimp only at hSw); go_simp; first | done | with_reducible rfl
  (try simp only [Act.put, Array.getInternal_eq_getElem, List.getElem_toArray, List.getElem_cons_succ, List.getElem_cons_zero, List.setIfInBounds_toArray, List.set_cons_zero, List.set_cons_succ])
  refine wpAnyH_done (by kernel_rfl) ?_ _
  have hlen : 2 + s.cells.length ≤ (jourCells sv db last).length := by show 9 ≤ 10; decide
  go_wp2_with (first
    | ((with_reducible refine wpList_load_met 135 (.tmp 3) b3 0 s.cells _ (some 34) HBwc.out.range Tryz.underlying135 rfl sizeSup ?hg ?ho ?hds ?hx ?_); (case ho => rfl); (case hg => rfl); (case hds => rfl); (case hx => rfl))
    | ((with_reducible refine wpList_store_part 135 (.tmp 36) (.tmp 34) jb 2 s.cells (jourCells sv db last) 137 HJwc.out hlen sizeSup (sup_one _) ?hgd ?ho ?hx ?hy ?_); (case hgd => rfl); (case ho => rfl); (case hx => rfl); (case hy => rfl); (intro we Be oe))
    | fail)
  go_ret
  have hjl := HJwb.out.lt
  have t1 : Turned (jb :: d.foot db) w wb := Turned.of_below HBEwb.out (Nat.le_refl _)
  have t2 : Turned (jb :: d.foot db) wb wc := HT.out.turned.mono (fun x hx => List.mem_cons_of_mem _ hx)
  have t3 : Turned (jb :: d.foot db) wc we := oe.turned (by simp)
  have hsz := HBEwb.out.size
  have hjn : jb ∉ d'.foot db := fun hm => (HT.out.foot jb hm).elim HNE.out (fun h9 => by omega)
  refine ⟨rfl, d', q, HDD.out, HTQ.out, HT.out.at'.turned (oe.turned (S := [jb]) (by simp)) (fun x hx hm => by simp at hm; subst hm; exact hjn hx), Be, t1.trans (t2.trans t3), fun x hx => (HT.out.foot x hx).elim .inl (fun h9 => .inr (Nat.le_trans hsz h9))⟩
end Go.Proofs.YtppdboadjefieaaGreat
