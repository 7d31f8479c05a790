/- A journal's commit (chapter 25), of a disk that has power. Going through places that show noughts (chapter 25): unlike, which hands nothing on then. A new disk (chapter 8): New. Code that is walked in the body of a range over a function, by the laws of a plain walk: operation by operation, region by region. No program in sight. -/
import Derived.Test.YtppdboadjefieaaGreatQ8
import Derived.Test.YtppdboadjefieaaGreatQ9
import Derived.Test.YtppdboadjefieaaGreatQ4
import Derived.Deep.RegionLaw
import Derived.RangeFuncFrom
import Derived.RangeFuncCalls
import Derived.RangeFuncLeaves
import Derived.TacticsIn
import Derived.OrdersIn
import Derived.Still
import Derived.StillTail
import Derived.StillTailTactics
import Derived.WalkKit
import Derived.ProofKit
import Derived.Deep.MidRow
import Derived.Laws.StructEq
set_option linter.unusedSimpArgs false
set_option linter.unusedVariables false
namespace Go.Proofs.YtppdboadjefieaaGreat
open Go Go.RowKit
set_option maxRecDepth 100000

def jourCells (sv : Value) (db : Nat) (last : SupD) : List Value := [sv, .pointer (some ⟨db, 0, none⟩)] ++ last.cells ++ [.bool false]
set_option maxHeartbeats 4000000 in
theorem jcommit_walk (jb db : Nat) (sv : Value) (d : DiskD) (last s : SupD) (w : World) (h : DiskAt w db d) (hj : Blk w jb (jourCells sv db last) 137) (hne : jb ∉ d.foot db) (hs : SupOk s)
    (hd : d.down = false) (hl : d.left = 0) (hc : d.cs.length < 4096) (hb : d.bs.length ≤ 1024) (hb2 : 2 ≤ d.bs.length) (hin : ∀ (j : Nat) p, d.cs[j]? = some p → 0 ≤ p.1 ∧ p.1 < d.bs.length) :
    Calls Tryz.prog 153 #[.pointer (some ⟨jb, 0, none⟩), s.v] w fun e w' => e = .returned (.int .i64 0) ∧ ∃ d' q, d' = (({ d with cs := d.cs ++ [(s.gen % 2, q)] } : DiskD)).flushed ∧ Txt q (supL s) ∧ DiskAt w' db d' ∧ Blk w' jb (jourCells sv db s) 137 ∧ Turned (jb :: d.foot db) w w' ∧ ∀ x, x ∈ d'.foot db → x ∈ d.foot db ∨ w.heap.size ≤ x := by
  have hmf : ∀ (fn : Fn) (first cap : Array Value) (w : World), (Instr.makeFunc fn first cap).run Tryz.prog w = .ok (.func fn first cap) w := fun _ _ _ _ => rfl
  have HH := Lib.hid h
  have HJ := Lib.hid hj
  have HNE := Lib.hid hne
  have HS := Lib.hid hs
  have HD := Lib.hid hd
  have HLF := Lib.hid hl
  have HC := Lib.hid hc
  have HB := Lib.hid (And.intro hb hb2)
  have HIN := Lib.hid hin
  clear h hj hne hs hd hl hc hb hb2 hin
  go_enter Tryz.func153, Tryz.ntmps153
  go_wp2_with (first
    | ((with_reducible refine wpList_box_new 135 (.tmp 1) s.cells (some 3) ?hgd ?ho ?hd ?hx ?_); (case hgd | ho | hd | hx => rfl); (intro b3 w1 l1 B1 e1 z1))
    | ((with_reducible refine wpList_load_met 135 (.tmp 3) b3 0 s.cells _ (some 9) B1.range Tryz.underlying135 rfl sizeSup ?hg ?ho ?hds ?hx ?_); (case ho | hg | hds | hx => rfl))
    | fail)
  refine (supPut_walk s _ HS.out).mono ?_
  rintro e w2 ⟨q, rfl, tq, hb2⟩
  have hb12 := (e1.mono l1).trans (hb2.mono (Nat.le_trans l1 (Nat.le_of_lt z1)))
  have HTQ := Lib.hid tq
  have HBw2 := Lib.hid (B1.below hb2 z1)
  have HL3 := Lib.hid l1
  have HJw2 := Lib.hid (HJ.out.below hb12 HJ.out.lt)
  have HDw2 := Lib.hid (HH.out.below hb12)
  have HBEw2 := Lib.hid hb12
  clear B1 e1 z1 l1 hb2 hb12 tq
  go_upto_region 4 with fail
  refine wp_region_held_drew (S := fun wx => wx.cell? ⟨b3, 0, none⟩ = some (.int .i64 s.gen) ∧ wx.cell? ⟨jb, 1, none⟩ = some (.pointer (some ⟨db, 0, none⟩))) (by kernel_rfl) (⟨HBw2.out.cell (i := 0) rfl, HJw2.out.cell (i := 1) rfl⟩) (fun hHeld => ?_)
  obtain ⟨wd, hwd⟩ : ∃ wd, wd = w2.drew := ⟨_, rfl⟩
  have HBwd := Lib.hid (show Blk wd b3 s.cells 135 from by rw [hwd]; exact HBw2.out.drew)
  have HJwd := Lib.hid (show Blk wd jb (jourCells sv db last) 137 from by rw [hwd]; exact HJw2.out.drew)
  have HDwd := Lib.hid (show DiskAt wd db d from by rw [hwd]; exact HDw2.out.below (Below.refl _ _).drew)
  have HBEwd := Lib.hid (show Below w.heap.size w wd from by rw [hwd]; exact HBEw2.out.drew)
  rw [← hwd]
  rw [← hwd] at hHeld
  clear hwd
  refine wpAnyH_take (i := 0) (v := ?_) rfl (by kernel_rfl) (by kernel_rfl) (by kernel_rfl) (fun _ _ _ h => h) (Or.inl ⟨by rfl, ?_⟩) (by assumption) ?_
  rotate_left
  · intro w hSw; (try dsimp only at hSw); go_simp; first | done | with_reducible rfl
  (try simp only [Act.put, Array.getInternal_eq_getElem, List.getElem_toArray, List.getElem_cons_succ, List.getElem_cons_zero, List.setIfInBounds_toArray, List.set_cons_zero, List.set_cons_succ])
  refine wpAnyH_take (i := 1) (v := ?_) rfl (by kernel_rfl) (by kernel_rfl) (by kernel_rfl) (fun _ _ _ h => h) (Or.inl ⟨by rfl, ?_⟩) (by assumption) ?_
  rotate_left
  · intro w hSw; (try dsimp only at hSw); go_simp; first | done | with_reducible rfl
  (try simp only [Act.put, Array.getInternal_eq_getElem, List.getElem_toArray, List.getElem_cons_succ, List.getElem_cons_zero, List.setIfInBounds_toArray, List.set_cons_zero, List.set_cons_succ])
  refine wpAnyH_take (i := 2) (v := ?_) rfl (by kernel_rfl) (by kernel_rfl) (by kernel_rfl) (fun _ _ _ h => h) (Or.inl ⟨by rfl, ?_⟩) (by assumption) ?_
  rotate_left
  · intro w hSw; (try dsimp only at hSw); go_simp; first | done | with_reducible rfl
  (try simp only [Act.put, Array.getInternal_eq_getElem, List.getElem_toArray, List.getElem_cons_succ, List.getElem_cons_zero, List.setIfInBounds_toArray, List.set_cons_zero, List.set_cons_succ])
  refine wpAnyH_take (i := 3) (v := ?_) rfl (by kernel_rfl) (by kernel_rfl) (by kernel_rfl) (fun _ _ _ h => h) (Or.inl ⟨by rfl, ?_⟩) (by assumption) ?_
  rotate_left
  · intro w hSw; (try dsimp only at hSw); go_simp; first | done | with_reducible rfl
  (try simp only [Act.put, Array.getInternal_eq_getElem, List.getElem_toArray, List.getElem_cons_succ, List.getElem_cons_zero, List.setIfInBounds_toArray, List.set_cons_zero, List.set_cons_succ])
  refine wpAnyH_take (i := 5) (v := ?_) rfl (by kernel_rfl) (by kernel_rfl) (by kernel_rfl) (fun _ _ _ h => h) (Or.inl ⟨by rfl, ?_⟩) (by assumption) ?_
  rotate_left
  · intro w hSw; (try dsimp only at hSw); go_simp; first | done | with_reducible rfl
  (try simp only [Act.put, Array.getInternal_eq_getElem, List.getElem_toArray, List.getElem_cons_succ, List.getElem_cons_zero, List.setIfInBounds_toArray, List.set_cons_zero, List.set_cons_succ])
  refine wpAnyH_take (i := 7) (v := ?_) rfl (by kernel_rfl) (by kernel_rfl) (by kernel_rfl) (fun _ _ _ h => h) (Or.inl ⟨by rfl, ?_⟩) (by assumption) ?_
  rotate_left
  · intro w hSw; (try dsimp only at hSw); go_simp; first | done | with_reducible rfl
  (try simp only [Act.put, Array.getInternal_eq_getElem, List.getElem_toArray, List.getElem_cons_succ, List.getElem_cons_zero, List.setIfInBounds_toArray, List.set_cons_zero, List.set_cons_succ])
  refine wpAnyH_take (i := 8) (v := ?_) rfl (by kernel_rfl) (by kernel_rfl) (by kernel_rfl) (fun _ _ _ h => h) (Or.inl ⟨by rfl, ?_⟩) (by assumption) ?_
  rotate_left
  · intro w hSw; (try dsimp only at hSw); go_simp; first | done | with_reducible rfl
  (try simp only [Act.put, Array.getInternal_eq_getElem, List.getElem_toArray, List.getElem_cons_succ, List.getElem_cons_zero, List.setIfInBounds_toArray, List.set_cons_zero, List.set_cons_succ])
  refine wpAnyH_take (i := 9) (v := ?_) rfl (by kernel_rfl) (by kernel_rfl) (by kernel_rfl) (fun _ _ _ h => h) (Or.inl ⟨by rfl, ?_⟩) (by assumption) ?_
  rotate_left
  · intro w hSw; (try dsimp only at hSw); go_simp; first | done | with_reducible rfl
  (try simp only [Act.put, Array.getInternal_eq_getElem, List.getElem_toArray, List.getElem_cons_succ, List.getElem_cons_zero, List.setIfInBounds_toArray, List.set_cons_zero, List.set_cons_succ])
  refine wpAnyH_take (i := 10) (v := ?_) rfl (by kernel_rfl) (by kernel_rfl) (by kernel_rfl) (fun _ _ _ h => h) (Or.inl ⟨by rfl, ?_⟩) (by assumption) ?_
  rotate_left
  · intro w hSw; (try dsimp only at hSw); go_simp; first | done | with_reducible rfl
  (try simp only [Act.put, Array.getInternal_eq_getElem, List.getElem_toArray, List.getElem_cons_succ, List.getElem_cons_zero, List.setIfInBounds_toArray, List.set_cons_zero, List.set_cons_succ])
  refine wpAnyH_take (i := 11) (v := ?_) rfl (by kernel_rfl) (by kernel_rfl) (by kernel_rfl) (fun _ _ _ h => h) (Or.inl ⟨by rfl, ?_⟩) (by assumption) ?_
  rotate_left
  · intro w hSw; (try dsimp only at hSw); go_simp; first | done | with_reducible rfl
  (try simp only [Act.put, Array.getInternal_eq_getElem, List.getElem_toArray, List.getElem_cons_succ, List.getElem_cons_zero, List.setIfInBounds_toArray, List.set_cons_zero, List.set_cons_succ])
  refine wpAnyH_ready (rs := [4]) (by kernel_rfl) (by simp) ?_
  refine AllReadyH.cons rfl (fun K hK => ?_) AllReadyH.nil
  go_simp
  refine (geomSuper_walk s.gen _ (by have := HS.out.g0; omega)).mono ?_
  rintro e w' ⟨rfl, rfl⟩
  (try go_wp2_with fail)
  refine hK.out _ _ (⟨HBwd.out.cell (i := 0) rfl, HJwd.out.cell (i := 1) rfl⟩) (fun hHeld2 => ?_)
  clear hK K hHeld
  have hHeld := hHeld2
  clear hHeld2
  (try simp only [Act.put, Array.getInternal_eq_getElem, List.getElem_toArray, List.getElem_cons_succ, List.getElem_cons_zero, List.setIfInBounds_toArray, List.set_cons_zero, List.set_cons_succ])
  refine wpAnyH_ready (rs := [6]) (by kernel_rfl) (by simp) ?_
  refine AllReadyH.cons rfl (fun K hK => ?_) AllReadyH.nil
  go_simp
  refine (jwrite_walk jb (s.gen % 2) q _).mono ?_
  rintro e wa ⟨⟨p3, p4, p5, rfl, hst, g3, g4, g5⟩, hb6⟩
  have HBwa := Lib.hid (HBwd.out.below hb6 HBwd.out.lt)
  have HJwa := Lib.hid (HJwd.out.below hb6 HJwd.out.lt)
  have HDwa := Lib.hid (HDwd.out.below hb6)
  have HBEwa := Lib.hid (HBEwd.out.trans (hb6.mono HBEwd.out.size))
  have HSTa := Lib.hid hst
  have HGE := Lib.hid (And.intro g3 (And.intro g4 g5))
  have HLa := Lib.hid hb6.size
  clear hst g3 g4 g5 hb6
  (try go_wp2_with fail)
  refine hK.out _ _ (⟨HBwa.out.cell (i := 0) rfl, HJwa.out.cell (i := 1) rfl⟩) (fun hHeld2 => ?_)
  clear hK K hHeld
  have hHeld := hHeld2
  clear hHeld2
  (try simp only [Act.put, Array.getInternal_eq_getElem, List.getElem_toArray, List.getElem_cons_succ, List.getElem_cons_zero, List.setIfInBounds_toArray, List.set_cons_zero, List.set_cons_succ])
  refine wpAnyH_ready (rs := [12]) (by kernel_rfl) (by simp) ?_
  refine AllReadyH.cons rfl (fun K hK => ?_) AllReadyH.nil
  go_simp
  obtain ⟨wb, hwb⟩ : ∃ wb, wb = wa.alloc (Obj.cells #[.func (.func 237) #[] #[.pointer (some ⟨p3, 0, none⟩), .pointer (some ⟨p4, 0, none⟩), .pointer (some ⟨p5, 0, none⟩)], .func (.func 151) #[.pointer (some ⟨db, 0, none⟩)] #[]] 167) := ⟨_, rfl⟩
  rw [← hwb]
  have hb7 : Below wa.heap.size wa wb := by rw [hwb]; exact (Below.refl _ _).alloc (Nat.le_refl _) _
  have hrow : Blk wb wa.heap.size [.func (.func 237) #[] #[.pointer (some ⟨p3, 0, none⟩), .pointer (some ⟨p4, 0, none⟩), .pointer (some ⟨p5, 0, none⟩)], .func (.func 151) #[.pointer (some ⟨db, 0, none⟩)] #[]] 167 := by rw [hwb]; exact Blk.new wa [.func (.func 237) #[] #[.pointer (some ⟨p3, 0, none⟩), .pointer (some ⟨p4, 0, none⟩), .pointer (some ⟨p5, 0, none⟩)], .func (.func 151) #[.pointer (some ⟨db, 0, none⟩)] #[]] 167
  have HBwb := Lib.hid (HBwa.out.below hb7 HBwa.out.lt)
  have HJwb := Lib.hid (HJwa.out.below hb7 HJwa.out.lt)
  have HDwb := Lib.hid (HDwa.out.below hb7)
  have HBEwb := Lib.hid (HBEwa.out.trans (hb7.mono HBEwa.out.size))
  have HROW := Lib.hid hrow
  have HSTb := Lib.hid (HSTa.out.below hb7)
  clear hrow hb7 hwb
  (try go_wp2_with fail)
  refine hK.out _ _ (⟨HBwb.out.cell (i := 0) rfl, HJwb.out.cell (i := 1) rfl⟩) (fun hHeld2 => ?_)
  clear hK K hHeld
  have hHeld := hHeld2
  clear hHeld2
  (try simp only [Act.put, Array.getInternal_eq_getElem, List.getElem_toArray, List.getElem_cons_succ, List.getElem_cons_zero, List.setIfInBounds_toArray, List.set_cons_zero, List.set_cons_succ])
  refine wpAnyH_ready (rs := [13]) (by kernel_rfl) (by simp) ?_
  refine AllReadyH.cons rfl (fun K hK => ?_) AllReadyH.nil
  go_simp
  refine (jsteps2_walk jb db wa.heap.size 2 p3 p4 p5 167 d (s.gen % 2) q _ HDwb.out HROW.out (HJwb.out.cell (i := 1) rfl) HJwb.out.lt HSTb.out (by
    intro x hx hm
    have hlt := HDwd.out.lt x hm
    have h1 := HGE.out
    have h2 := HLa.out
    rcases hx with rfl | rfl | rfl | rfl | rfl
    · omega
    · exact HNE.out hm
    · omega
    · omega
    · omega) HD.out HLF.out HC.out HB.out.1 HIN.out (by have := HS.out.g0; omega) (by have := HB.out.2; omega) (by rw [HTQ.out.size, supL_length])).mono ?_
  rintro e wc ⟨rfl, d', hd', ht⟩
  have HB3N := Lib.hid (show b3 ∉ d.foot db from fun hm => by have := HH.out.lt b3 hm; have := HL3.out; omega)
  have HBwc := Lib.hid (ht.turned.blk HBwb.out HB3N.out)
  have HJwc := Lib.hid (ht.turned.blk HJwb.out HNE.out)
  have HT := Lib.hid ht
  have HDD := Lib.hid hd'
  clear ht hd'
  (try go_wp2_with fail)
  refine hK.out _ _ (⟨HBwc.out.cell (i := 0) rfl, HJwc.out.cell (i := 1) rfl⟩) (fun hHeld2 => ?_)
  clear hK K hHeld
  have hHeld := hHeld2
  clear hHeld2
  (try simp only [Act.put, Array.getInternal_eq_getElem, List.getElem_toArray, List.getElem_cons_succ, List.getElem_cons_zero, List.setIfInBounds_toArray, List.set_cons_zero, List.set_cons_succ])
  refine wpAnyH_take (i := 14) (v := ?_) rfl (by kernel_rfl) (by kernel_rfl) (by kernel_rfl) (fun _ _ _ h => h) (Or.inl ⟨by rfl, ?_⟩) (by assumption) ?_
  rotate_left
  · intro w hSw; (try dsimp only at hSw); go_simp; first | done | with_reducible rfl
  (try simp only [Act.put, Array.getInternal_eq_getElem, List.getElem_toArray, List.getElem_cons_succ, List.getElem_cons_zero, List.setIfInBounds_toArray, List.set_cons_zero, List.set_cons_succ])
  refine wpAnyH_done (by kernel_rfl) ?_ _
  have hlen : 2 + s.cells.length ≤ (jourCells sv db last).length := by show 9 ≤ 10; decide
  go_wp2_with (first
    | ((with_reducible refine wpList_load_met 135 (.tmp 3) b3 0 s.cells _ (some 34) HBwc.out.range Tryz.underlying135 rfl sizeSup ?hg ?ho ?hds ?hx ?_); (case ho | hg | hds | hx => rfl))
    | ((with_reducible refine wpList_store_part 135 (.tmp 36) (.tmp 34) jb 2 s.cells (jourCells sv db last) 137 HJwc.out hlen sizeSup (sup_one _) ?hgd ?ho ?hx ?hy ?_); (case hgd | ho | hx | hy => rfl); (intro we Be oe))
    | fail)
  go_ret
  have hjl := HJwb.out.lt
  have t1 : Turned (jb :: d.foot db) w wb := Turned.of_below HBEwb.out (Nat.le_refl _)
  have t2 : Turned (jb :: d.foot db) wb wc := HT.out.turned.mono (fun x hx => List.mem_cons_of_mem _ hx)
  have t3 : Turned (jb :: d.foot db) wc we := oe.turned (by simp)
  have hsz := HBEwb.out.size
  have hjn : jb ∉ d'.foot db := fun hm => (HT.out.foot jb hm).elim HNE.out (fun h9 => by omega)
  refine ⟨rfl, d', q, HDD.out, HTQ.out, HT.out.at'.turned (oe.turned (S := [jb]) (by simp)) (fun x hx hm => by simp at hm; subst hm; exact hjn hx), Be, t1.trans (t2.trans t3), fun x hx => (HT.out.foot x hx).elim .inl (fun h9 => .inr (Nat.le_trans hsz h9))⟩
end Go.Proofs.YtppdboadjefieaaGreat

namespace Go.Proofs.YtppdboadjefieaaGreat
open Go Go.RowKit
set_option maxRecDepth 100000

structure UnlikeAt (w : World) (db pf pt pd : Nat) (a z : Int) : Prop where
  f : Blk w pf [.int .i64 a] 3
  t : Blk w pt [.int .i64 z] 3
  d : Blk w pd [.pointer (some ⟨db, 0, none⟩)] 52
theorem UnlikeAt.below {w w' : World} {db pf pt pd : Nat} {a z : Int} (h : UnlikeAt w db pf pt pd a z) (hb : Below w.heap.size w w') : UnlikeAt w' db pf pt pd a z :=
  ⟨h.f.below hb h.f.lt, h.t.below hb h.t.lt, h.d.below hb h.d.lt⟩
theorem unlike_walk (db : Nat) (a z : Int) (w : World) :
    Calls Tryz.prog 167 #[.pointer (some ⟨db, 0, none⟩), .int .i64 a, .int .i64 z] w fun e w' => (∃ pf pt pd, e = .returned (.func (.func 261) #[] #[.pointer (some ⟨pf, 0, none⟩), .pointer (some ⟨pt, 0, none⟩), .pointer (some ⟨pd, 0, none⟩)]) ∧ UnlikeAt w' db pf pt pd a z) ∧ Below w.heap.size w w' := by
  have hmf : ∀ (fn : Fn) (first cap : Array Value) (w : World), (Instr.makeFunc fn first cap).run Tryz.prog w = .ok (.func fn first cap) w := fun _ _ _ _ => rfl
  go_enter Tryz.func167, Tryz.ntmps167
  go_wp2_with (first
    | ((with_reducible refine wpList_box_one 52 (.tmp 0) (.pointer (some ⟨db, 0, none⟩)) rfl (some 3) ?hgd ?ho ?hd ?hx ?_); (case hgd | ho | hd | hx => rfl); (intro b1 w1 l1 B1 e1 z1))
    | ((with_reducible refine wpList_box_one 3 (.tmp 1) (.int .i64 a) rfl (some 4) ?hgd ?ho ?hd ?hx ?_); (case hgd | ho | hd | hx => rfl); (intro b2 w2 l2 B2 e2 z2))
    | ((with_reducible refine wpList_box_one 3 (.tmp 2) (.int .i64 z) rfl (some 5) ?hgd ?ho ?hd ?hx ?_); (case hgd | ho | hd | hx => rfl); (intro b3 w3 l3 B3 e3 z3))
    | fail)
  go_ret
  have g1 : w.heap.size ≤ b2 := Nat.le_trans l1 (Nat.le_of_lt (Nat.lt_of_lt_of_le z1 l2))
  have g2 : w.heap.size ≤ b3 := Nat.le_trans g1 (Nat.le_of_lt (Nat.lt_of_lt_of_le z2 l3))
  exact ⟨⟨b2, b3, b1, rfl, ⟨B2.below e3 (Nat.lt_of_lt_of_le z2 l3), B3, (B1.below e2 (Nat.lt_of_lt_of_le z1 l2)).below e3 (by omega)⟩⟩, ((e1.mono l1).trans (e2.mono g1)).trans (e3.mono g2)⟩
set_option maxHeartbeats 2000000 in
theorem unlike1_walk (yv : Value) (db pf pt pd : Nat) (d : DiskD) (a z : Nat) (w : World) (h : DiskAt w db d) (hu : UnlikeAt w db pf pt pd a z) (haz : a ≤ z) (hz : z ≤ d.bs.length)
    (hd : d.down = false) (hc : d.cs.length ≤ 4096) (hb : d.bs.length ≤ 1024) (hsh : ∀ i, a ≤ i → i < z → d.shown i = (⟨(List.replicate 4096 0).toArray⟩ : ByteArray)) :
    Calls Tryz.prog 261 #[yv, .pointer (some ⟨pf, 0, none⟩), .pointer (some ⟨pt, 0, none⟩), .pointer (some ⟨pd, 0, none⟩)] w fun e w' => e = .returned (.tuple #[]) ∧ Below w.heap.size w w' := by
  have HH := Lib.hid h
  have HU := Lib.hid hu
  have HD := Lib.hid hd
  have HC := Lib.hid hc
  have HB := Lib.hid hb
  have HZ := Lib.hid hz
  have hemp := slotsEmpty_walk
  obtain ⟨nb, hnb⟩ : ∃ nb, (⟨(List.replicate 4096 0).toArray⟩ : ByteArray) = nb := ⟨_, rfl⟩
  rw [hnb] at hsh hemp
  have HSH := Lib.hid hsh
  have HEMP := Lib.hid hemp
  have c1 := hu.f.cell (i := 0) rfl
  clear h hu hd hc hb hz hsh hemp hnb
  go_enter Tryz.func261, Tryz.ntmps261
  go_wp2_with fail
  clear c1
  go_loopw [5] (fun v wr => ∃ k : Nat, a ≤ k ∧ k ≤ z ∧ v = .int .i64 k ∧ Below w.heap.size w wr) (fun v _ => z - (intOf v).toNat)
  case atStart => exact ⟨a, Nat.le_refl _, haz, rfl, Below.refl _ _⟩
  case round =>
    obtain ⟨k, hk0, hk, rfl, hbel⟩ := hrel
    have HBE := Lib.hid hbel
    have HUr := Lib.hid (HU.out.below hbel)
    have HDr := Lib.hid (HH.out.below hbel)
    clear hbel
    have c2 := HUr.out.t.cell (i := 0) rfl
    have c3 := HUr.out.d.cell (i := 0) rfl
    by_cases hlt : k < z
    · have hlt' : (k : Int) < z := by omega
      have hk9 : (k : Int) ≤ 1024 := by have := HZ.out; have := HB.out; omega
      go_wp2_with fail
      refine (dread_walk db d _ HDr.out HD.out k (Nat.lt_of_lt_of_le hlt HZ.out) HC.out HB.out).mono ?_
      rintro e w' ⟨rfl, rfl⟩
      rw [HSH.out k hk0 hlt]
      go_wp2_with fail
      refine (HEMP.out _).mono ?_
      rintro e w2 ⟨rfl, hb2⟩
      have HB2 := Lib.hid (HBE.out.trans (hb2.mono HBE.out.size))
      clear hb2
      go_wp2_with fail
      go_roundw
      case rel => exact ⟨k + 1, by omega, by omega, by go_num, HB2.out⟩
      case measure => simp [intOf]; omega
    · obtain rfl : k = z := by omega
      go_wp2_with fail
      go_end0
      exact ⟨rfl, HBE.out⟩
end Go.Proofs.YtppdboadjefieaaGreat

namespace Go.Proofs.YtppdboadjefieaaGreat
open Go Go.RowKit
set_option maxRecDepth 100000

theorem DiskAt.blocked {u w w' : World} {db : Nat} {d : DiskD} {v : Value} {l : List ByteArray} (h : DiskAt u db d) (hr : w.ownsRow 0 9 1 v l.length (l.map .string)) (hg : u.grownBy w d.bv.ownBlock) (hn : Near u d.bv.ownBlock v.ownBlock)
    (o : Only db w w') (hb : Blk w' db ({ d with bv := v, bs := l } : DiskD).cells 124) : DiskTo u w' db d { d with bv := v, bs := l } := by
  have t1 : Turned (d.foot db) u w := Turned.of_grown hg (fun k hk => DiskD.mem1 hk)
  have t2 : Turned [db] w w' := o.turned (by simp)
  have hvdb : v.ownBlock ≠ some db := by
    intro he
    rcases hn with h1 | h1
    · exact h.n1 (by rw [← h1]; exact he)
    · have := h1 db he; have := h.blk.lt; omega
  refine ⟨⟨hb, own_turned hr t2 (fun k hk hm => hvdb (by simp at hm; rw [hk, hm])), ?_, hvdb, h.n2, ?_⟩, ?_, ?_⟩
  · refine own_turned (S := [db]) ?_ t2 (fun k hk hm => h.n2 (by simp at hm; rw [hk, hm]))
    exact own_turned (S := d.bv.ownBlock.toList) h.rc (Turned.of_grown hg (fun k hk => by simp [hk])) (fun k hk hm => h.n3 k (by simpa using hm) hk)
  · intro g hgb hgv
    rcases hn with h1 | h1
    · exact h.n3 g (by rw [← h1]; exact hgb) hgv
    · have := h1 g hgb; have := (h.rc.lt g hgv).2; omega
  · exact t1.trans (t2.mono (fun x hx => by simp at hx; subst hx; simp [DiskD.foot]))
  · intro x hx
    simp only [DiskD.foot, List.mem_cons, List.mem_append, Option.mem_toList, Option.mem_def] at hx ⊢
    rcases hx with hx | hx | hx
    · exact .inl (.inl hx)
    · rcases hn with h1 | h1
      · exact .inl (.inr (.inl (by rw [← h1]; exact hx)))
      · exact .inr (h1 x hx)
    · exact .inl (.inr (.inr hx))
def noughtB : ByteArray := ⟨(List.replicate 4096 0).toArray⟩
def newDisk (n : Nat) (v : Value) : DiskD := ⟨v, List.replicate n noughtB, .slice none 0 0, [], false, 0⟩
set_option maxHeartbeats 2000000 in
theorem dnew_walk (n : Nat) (w : World) (h8 : 8 ≤ n) (h1 : n ≤ 1024) :
    Calls Tryz.prog 15 #[.int .i64 (n : Int)] w fun e w' => (∃ db v, e = .returned (.tuple #[.pointer (some ⟨db, 0, none⟩), .int .i64 0]) ∧ DiskAt w' db (newDisk n v) ∧ ∀ x, x ∈ (newDisk n v).foot db → w.heap.size ≤ x) ∧ Below w.heap.size w w' := by
  obtain ⟨j0, ji, jz0, jz1, jz2⟩ := info_parts infoStr8
  have hn0 : (8 : Int) ≤ (n : Int) := by omega
  have hn1 : (n : Int) ≤ 1024 := by omega
  go_enter Tryz.func15, Tryz.ntmps15
  go_wp2_with (first
    | ((with_reducible refine wpList_build_eq 124 ?parts ((newDisk 0 (.slice none 0 0)).cells) ?hg ?ho ?hf ?_); (case hg | ho => rfl); (case hf => exact builtDisk))
    | ((with_reducible refine wpList_box_new 124 (.tmp 11) ((newDisk 0 (.slice none 0 0)).cells) (some 12) ?hgd ?ho ?hd ?hx ?_); (case hgd | ho | hd | hx => rfl); (intro db w1 l1 B1 e1 z1))
    | fail)
  have hA1 : DiskAt w1 db (newDisk 0 (.slice none 0 0)) := ⟨B1, World.ownsRow_nil _ _ _ _, World.ownsRow_nil _ _ _ _, by simp [newDisk, Value.ownBlock], by simp [newDisk, Value.ownBlock], by simp [newDisk, Value.ownBlock]⟩
  have HL := Lib.hid l1
  have hbel := e1.mono l1
  clear B1 e1 z1
  go_loopw [14] (fun i wr => ∃ (k : Nat) (v : Value), k ≤ n ∧ i = .int .i64 k ∧ DiskAt wr db (newDisk k v) ∧ (∀ x, x ∈ (newDisk k v).foot db → w.heap.size ≤ x) ∧ Below w.heap.size w wr) (fun i _ => n - (intOf i).toNat)
  case atStart => exact ⟨0, .slice none 0 0, by omega, rfl, hA1, by intro x hx; simp [DiskD.foot, newDisk, Value.ownBlock] at hx; subst hx; exact HL.out, hbel⟩
  case round =>
    clear hA1 hbel
    obtain ⟨k, v, hk, rfl, hA, hF, hbel⟩ := hrel
    have HA := Lib.hid hA
    have HF := Lib.hid hF
    have HB := Lib.hid hbel
    clear hA hF hbel
    by_cases hlt : k < n
    · have hlt' : (k : Int) < n := by omega
      have c0 := HA.out.blk.cell (i := 0) rfl
      obtain ⟨pv, cv, hv⟩ := bv_shape HA.out
      have hkl : (newDisk k v).bs.length = k := by simp [newDisk]
      rw [hkl] at hv
      have hv' : v = .slice pv k cv := hv
      subst hv'
      have HKL := Lib.hid hkl
      clear hv hkl
      go_wp2_with fail
      go_region_law (first
        | (refine step_append_at rfl _ _ 24 rfl j0 (.string ⟨#[]⟩) 16 Tryz.underlying24 ji jz0 jz1 jz2 rfl (by decide) rfl OW7.out ⟨w7.heap.size, 0, none⟩ 1 1 [.string s] rfl rfl (cells_add (Blk.new w7 [.string s] 9)) (by intro u hu; simp at hu; subst hu; rfl) (by unfold maxLen; omega) (by omega) (Nat.zero_le _) ?_; intro v' w8 own8 grow8 near8; obtain ⟨p8, q8, hv8⟩ := own_shape own8; subst hv8; have B8 := HB7.out.grown grow8 (fun he => HA.out.n1 he.symm); have c8 := B8.cell (i := 0) rfl; have f8 := B8.free 0)
        | (go_simp; go_at_call 48; refine (repeat0 4096 _ (by decide)).mono ?_; rintro e w7 ⟨s, rfl, ts, hb7⟩; have TS := Lib.hid ts; have hx7 := (HA.out.below (Below.refl _ _).drew).below hb7; have HX7 := Lib.hid hx7; have ow7 : w7.ownsRow 0 9 1 (.slice pv k cv) k ((List.replicate k noughtB).map .string) := (by have h9 := hx7.rb; rw [HKL.out] at h9; exact h9); have OW7 := Lib.hid (World.ownsRow.alloc ow7 (.cells #[.string s] 9)); clear ow7; have HB7 := Lib.hid (hx7.blk.alloc (.cells #[.string s] 9)); have c7 := hx7.blk.cell (i := 0) rfl; have c7a := HB7.out.cell (i := 0) rfl; have HBE7 := Lib.hid (HB.out.drew.trans (hb7.mono HB.out.drew.size)); clear ts hx7 hb7)
        | fail)
      all_goals
        have hs : s = noughtB := TS.out.of
        have AU : DiskAt (w7.alloc (.cells #[.string s] 9)) db (newDisk k (.slice pv k cv)) := HX7.out.below ((Below.refl _ _).alloc (Nat.le_refl _) _)
        have hr : w8.ownsRow 0 9 1 (.slice p8 (k + 1) q8) (List.replicate (k + 1) noughtB).length ((List.replicate (k + 1) noughtB).map .string) := by
          rw [List.length_replicate, List.replicate_succ', List.map_append, ← hs]
          rw [← hs] at own8
          exact own8
        have hT := AU.blocked (w := w8) (v := .slice p8 (k + 1) q8) (l := List.replicate (k + 1) noughtB) hr grow8 near8 ((Only.refl db w8).setCell 0 _) (B8.set 0 _)
        have HTO := Lib.hid hT
        have HSZ := Lib.hid (show w.heap.size ≤ (w7.alloc (.cells #[.string s] 9)).heap.size by have := HBE7.out.size; simp; omega)
        have HBU := Lib.hid (show Below w.heap.size w (w7.alloc (.cells #[.string s] 9)) from HBE7.out.alloc HBE7.out.size _)
        clear hs AU hr hT own8 grow8 near8 B8 c8 f8 c7 c7a
        go_wp2_with fail
        go_roundw
        case rel =>
          refine ⟨k + 1, .slice p8 (k + 1) q8, by omega, by go_num, HTO.out.at', fun x hx => ?_, HTO.out.turned.below HBU.out HF.out HSZ.out⟩
          rcases HTO.out.foot x hx with h9 | h9
          · exact HF.out x h9
          · exact Nat.le_trans HSZ.out h9
        case measure => simp [intOf]; omega
    · obtain rfl : k = n := by omega
      go_wp2_with fail
      go_ret2
      exact ⟨⟨db, v, rfl, HA.out, HF.out⟩, HB.out⟩
end Go.Proofs.YtppdboadjefieaaGreat

namespace Go.Proofs.YtppdboadjefieaaGreat
open Go

section
variable {P : Program} {ops : Array Oper} {Q : Exit → Act → World → Prop} {a : Act} {w : World} {n r : Nat}

def Oper.calm (o : Oper) : Bool := match o.op with | .defer _ => false | _ => true
end

section
variable {P : Program} {ops : Array Oper} {rest : List Oper} {o : Oper} {a : Act} {w : World} {Q : Act → Prop}
end
end Go.Proofs.YtppdboadjefieaaGreat

