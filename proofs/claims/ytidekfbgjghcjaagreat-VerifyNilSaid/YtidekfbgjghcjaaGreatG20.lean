/- A verifier of the example of chapter 28: New, Count. A verifier of the example of chapter 28: its key, its tag, how a session begins. A verifier of the example of chapter 28: how a session begins. A verifier of the example of chapter 28: Start. A verifier of the example of chapter 28: Out. A verifier of the example of chapter 28: step, hi, In. A verifier of the example of chapter 28: In. Walk of chapter 28's example. -/
import Derived.Test.YtidekfbgjghcjaaGreatVer1
import Derived.Test.YtidekfbgjghcjaaGreatWireTag
import Derived.Test.YtidekfbgjghcjaaGreatOpenAct
import Derived.Maps.OwnSet
import Derived.Maps.OwnOps
import Derived.Maps.RangeWalk
import Derived.Carry
import Derived.WalkSpells
import Derived.Deep.QuietTactic
import Derived.BigQuiet
import Derived.Test.YtidekfbgjghcjaaGreatG5
import Derived.Test.YtidekfbgjghcjaaGreatG3
import Derived.Test.YtidekfbgjghcjaaGreatTurn
import Derived.Deep.RegionHeld3
import Derived.Deep.MidRow
import Derived.Test.YtidekfbgjghcjaaGreatG1
import Derived.Deep.DeepAppendWide
import Derived.Laws.OwnMore
import Derived.Lib.SliceRun
import Derived.Deep.RegionWith
import Derived.Laws.EntriesVeiled
namespace Go.Proofs.YtidekfbgjghcjaaGreat
set_option linter.unusedSimpArgs false
set_option linter.unusedVariables false
open Go Go.RowKit Go.Maps Go.WideMaps
set_option linter.unusedVariables false

/-- The example's root. -/
def root28 : ByteArray := ⟨#[48, 49, 50, 51, 52, 53, 54, 55, 56, 57, 97, 98, 99, 100, 101, 102, 48, 49, 50, 51, 52, 53, 54, 55, 56, 57, 97, 98, 99, 100, 101, 102]⟩
/-- What of a verifier turns in the example. -/
structure VerD where
  cb : Nat
  m1 : Nat
  m2 : Nat
  nonces : Int
  state : Int
  nonce : ByteArray
  asks : Value
  epoch : Int
def VerD.cells (d : VerD) : List Value := .string root28 :: .int .i64 0 :: .pointer (some ⟨d.cb, 0, none⟩) :: .map (some d.m1) :: .map (some d.m2) :: .int .i64 d.nonces :: .int .i64 d.state :: .int .i64 0 :: .string d.nonce :: d.asks :: .int .i64 d.epoch :: (MsgD.zero.cells (.slice none 0 0) (.slice none 0 0) ++ [.slice none 0 0, .pointer none, .slice none 0 0, .slice none 0 0])
/-- A verifier in memory, that has no receipts. -/
structure VerAt (w : World) (vb : Nat) (d : VerD) : Prop where
  blk : Blk w vb d.cells 94
  map : w.ownsMap Tryz.prog 3 (fun _ => (none : Option (DataW Unit × List MemPlace))) d.m2 0 (.map [])
  ne : d.m2 ≠ vb
theorem VerAt.only {w w' : World} {vb : Nat} {d d' : VerD} (h : VerAt w vb d) (o : Only vb w w') (hm : d'.m2 = d.m2) (hb : Blk w' vb d'.cells 94) : VerAt w' vb d' :=
  ⟨hb, by rw [hm]; exact h.map.kept (row := some vb) ⟨o.os, o.tape, o.output, by rw [o.size]; exact Nat.le_refl _, fun k hk hne => o.block k (by intro e; exact hne (by rw [e]))⟩ (by intro e; injection e with e; exact h.ne e), by rw [hm]; exact h.ne⟩
theorem VerAt.below {w w' : World} {vb : Nat} {d : VerD} (h : VerAt w vb d) (hb : Below w.heap.size w w') : VerAt w' vb d :=
  ⟨h.blk.below hb h.blk.lt, h.map.kept (below_grown hb) (by simp), h.ne⟩
theorem keyedInt28 : Keyed Tryz.prog 3 := int_keyed Tryz.underlying3
theorem builtVer (s : ByteArray) (n : Int) (p : Option Addr) (m1 m2 : Option Nat) : Tryz.prog.built 94 [(0, .string s), (1, .int .i64 n), (2, .pointer p), (3, .map m1), (4, .map m2)] = some (.string s :: .int .i64 n :: .pointer p :: .map m1 :: .map m2 :: .int .i64 0 :: .int .i64 0 :: .int .i64 0 :: .string ⟨#[]⟩ :: .slice none 0 0 :: .int .i64 0 :: (MsgD.zero.cells (.slice none 0 0) (.slice none 0 0) ++ [.slice none 0 0, .pointer none, .slice none 0 0, .slice none 0 0])).toArray := by kernel_rfl
theorem builtVer0 (p : Option Addr) (m1 m2 : Nat) (cb : Nat) (hp : p = some ⟨cb, 0, none⟩) : Tryz.prog.built 94 [(0, .string root28), (1, .int .i64 0), (2, .pointer p), (3, .map (some m1)), (4, .map (some m2))] = some (VerD.cells ⟨cb, m1, m2, 0, 0, ⟨#[]⟩, .slice none 0 0, 0⟩).toArray := by subst hp; exact builtVer _ _ _ _ _

set_option maxRecDepth 100000 in
set_option maxHeartbeats 1000000 in
theorem clockNew_walk (w : World) :
    Calls Tryz.prog 139 #[.int .i64 0] w fun e w' => (∃ cb, e = .returned (.tuple #[.pointer (some ⟨cb, 0, none⟩), .int .i64 0])) ∧ Below w.heap.size w w' := by
  go_enter Tryz.func139, Tryz.ntmps139
  go_wp2_with fail
  refine Calls.mono (show Calls Tryz.prog 186 #[.int .i64 0] _ (fun e w' => e = .returned (.bool true) ∧ w = w') from ?_) ?_
  · go_enter Tryz.func186, Tryz.ntmps186
    go_wp2_with fail
    go_ret
    exact ⟨rfl, rfl⟩
  rintro e w1 ⟨rfl, rfl⟩
  go_wp2_with fail
  go_ret2
  exact ⟨⟨_, rfl⟩, (Below.refl _ _).alloc (Nat.le_refl _) _⟩
set_option maxRecDepth 100000 in
set_option maxHeartbeats 2000000 in
theorem vNew_walk (w : World) :
    Calls Tryz.prog 82 #[.string root28, .int .i64 0] w fun e w' => (∃ vb cb m1 m2, e = .returned (.tuple #[.pointer (some ⟨vb, 0, none⟩), .int .i64 0]) ∧ VerAt w' vb ⟨cb, m1, m2, 0, 0, ⟨#[]⟩, .slice none 0 0, 0⟩ ∧ w.heap.size ≤ vb ∧ w.heap.size ≤ m2) ∧ Below w.heap.size w w' := by
  have hmm := @run_makeMap Tryz.prog
  go_enter Tryz.func82, Tryz.ntmps82
  go_wp2_with fail
  refine (firstKey_walk root28 0 _).mono ?_
  rintro e w1 ⟨he, hb1⟩
  obtain ⟨r, rfl, tr⟩ := he.yes (by decide)
  have HB1 := Lib.hid hb1
  clear hb1 tr he
  go_wp2_with fail
  refine (clockNew_walk _).mono ?_
  rintro e w2 ⟨⟨cb, rfl⟩, hb2⟩
  have HB2 := Lib.hid (HB1.out.trans (hb2.mono HB1.out.size))
  clear hb2
  go_wp2_with (first
    | ((with_reducible refine wpList_build_eq 94 ?parts (VerD.cells ⟨cb, w2.heap.size, (w2.alloc (.map #[] 0)).heap.size, 0, 0, ⟨#[]⟩, .slice none 0 0, 0⟩) ?hg ?ho ?hf ?_); (case hg => rfl); (case ho => rfl); (case hf => exact builtVer0 _ _ _ _ rfl))
    | ((with_reducible refine wpList_box_new 94 (.tmp 28) (VerD.cells ⟨cb, w2.heap.size, (w2.alloc (.map #[] 0)).heap.size, 0, 0, ⟨#[]⟩, .slice none 0 0, 0⟩) (some 29) ?hgd ?ho ?hd ?hx ?_); (case hgd => rfl); (case ho => rfl); (case hd => rfl); (case hx => rfl); (intro b3 w3 l3 B3 e3 z3))
    | fail)
  go_ret2
  refine ⟨⟨_, cb, w2.heap.size, w2.heap.size + 1, rfl, ⟨?_, ?_, by show w2.heap.size + 1 ≠ w2.heap.size + 1 + 1; omega⟩, ?_, ?_⟩, ?_⟩
  · have := Blk.new ((w2.alloc (.map #[] 0)).alloc (.map #[] 0)) (VerD.cells ⟨cb, w2.heap.size, (w2.alloc (.map #[] 0)).heap.size, 0, 0, ⟨#[]⟩, .slice none 0 0, 0⟩) 94
    simp at this
    exact this
  · have e : w2.heap.size + 1 = (w2.alloc (.map #[] 0)).heap.size := by simp
    show World.ownsMap _ _ _ _ (w2.heap.size + 1) 0 _
    rw [e]
    exact (World.ownsMap_made (w2.alloc (.map #[] 0)) Tryz.prog 3 _).kept (below_grown ((Below.refl _ _).alloc (Nat.le_refl _) _)) (by simp)
  · have := HB2.out.size; omega
  · have := HB2.out.size; simp; omega
  · exact HB2.out.trans ((((Below.refl _ _).alloc HB2.out.size _).alloc (by have := HB2.out.size; simp; omega) _).alloc (by have := HB2.out.size; simp; omega) _)
set_option maxRecDepth 100000 in
theorem vthere_yes (vb : Nat) (d : VerD) (w : World) (h : VerAt w vb d) :
    Calls Tryz.prog 83 #[.pointer (some ⟨vb, 0, none⟩)] w fun e w' => e = .returned (.bool true) ∧ w = w' := by
  have c2 := h.blk.cell (i := 2) rfl
  go_enter Tryz.func83, Tryz.ntmps83
  go_wp2_with fail
  go_ret
  exact ⟨rfl, rfl⟩
set_option maxRecDepth 100000 in
set_option maxHeartbeats 1000000 in
theorem vCount_zero (vb : Nat) (d : VerD) (w : World) (h : VerAt w vb d) :
    Calls Tryz.prog 40 #[.pointer (some ⟨vb, 0, none⟩)] w fun e w' => e = .returned (.int .i64 0) ∧ Below w.heap.size w w' := by
  have HH := Lib.hid h
  clear h
  go_enter Tryz.func40, Tryz.ntmps40
  go_wp2_with fail
  refine (vthere_yes vb d _ HH.out).mono ?_
  rintro e w1 ⟨rfl, rfl⟩
  have c4 := HH.out.blk.cell (i := 4) rfl
  go_wp2_with (first
    | (at_range; refine wpList_range_own _ rfl _ 88 rfl 3 37 keyedInt28 Tryz.underlying88 _ d.m2 0 (.map []) rfl HH.out.map ?_; intro w2 hr2 hg2 hs2)
    | fail)
  have HR := Lib.hid hr2
  have HB := Lib.hid (show Below w.heap.size w w2 from ⟨hg2.os, hg2.tape, hg2.output, hg2.size, fun i hi => hg2.block i hi (by simp)⟩)
  clear hr2 hg2 hs2 c4
  go_frame
  go_loopw [3] (fun vn wr => vn = .int .i64 0 ∧ wr = w2) (fun _ _ => 0)
  case atStart => exact ⟨rfl, rfl⟩
  case round =>
    obtain ⟨rfl, rfl⟩ := hrel
    go_wp2_with (first
      | (at_next; refine wpList_next_ranges _ rfl _ rfl 3 keyedInt28 _ (fun x : Value => x) (fun x : Value => x) (fun key kl h => ⟨key, rfl⟩) (fun v y h => ⟨v, rfl⟩) d.m2 w.heap.size 0 (.map []) _ _ rfl HR.out (fun _ _ => ?_) (fun x c kl y w' cnt' h1 h2 h3 _ _ hlt _ _ _ => by cases h3))
      | fail)
    go_ret
    exact ⟨rfl, HB.out⟩
end Go.Proofs.YtidekfbgjghcjaaGreat
namespace Go.Proofs.YtidekfbgjghcjaaGreat
set_option linter.unusedSimpArgs false
set_option linter.unusedVariables false
open Go Go.RowKit
set_option linter.unusedVariables false

theorem VerAt.drew {w : World} {vb : Nat} {d : VerD} (h : VerAt w vb d) : VerAt w.drew vb d := ⟨h.blk.drew, h.map.kept (below_grown ((Below.refl _ _).drew)) (by simp), h.ne⟩
set_option maxRecDepth 100000 in
set_option maxHeartbeats 2000000 in
theorem vkey_walk (vb : Nat) (d : VerD) (w : World) (h : VerAt w vb d) :
    Calls Tryz.prog 140 #[.pointer (some ⟨vb, 0, none⟩), .int .i64 3] w fun e w' => (∃ q : ByteArray, e = .returned (.string q) ∧ q.size = 32) ∧ Below w.heap.size w w' := by
  have HH := Lib.hid h
  clear h
  go_enter Tryz.func140, Tryz.ntmps140
  go_wp2_with fail
  have hS0 : (fun w' => w'.cell? ⟨vb, 0, none⟩ = some (.string root28) ∧ w'.cell? ⟨vb, 1, none⟩ = some (.int .i64 0)) w.drew := ⟨HH.out.blk.drew.cell (i := 0) rfl, HH.out.blk.drew.cell (i := 1) rfl⟩
  refine wp_region_held_drew (S := fun w' => w'.cell? ⟨vb, 0, none⟩ = some (.string root28) ∧ w'.cell? ⟨vb, 1, none⟩ = some (.int .i64 0)) (by kernel_rfl) (hS0) (fun hHeld => ?_)
  clear hS0
  refine wpAnyH_take (i := 0) (v := ?_) rfl (by kernel_rfl) (by kernel_rfl) (by kernel_rfl) (fun _ _ _ h => h) (Or.inl ⟨by rfl, ?_⟩) (by assumption) ?_
  rotate_left
  · intro w hSw; (try dsimp only at hSw); go_simp; first | done | with_reducible rfl
  (try simp only [Act.put, Array.getInternal_eq_getElem, List.getElem_toArray, List.getElem_cons_succ, List.getElem_cons_zero, List.setIfInBounds_toArray, List.set_cons_zero, List.set_cons_succ])
  refine wpAnyH_take (i := 1) (v := ?_) rfl (by kernel_rfl) (by kernel_rfl) (by kernel_rfl) (fun _ _ _ h => h) (Or.inl ⟨by rfl, ?_⟩) (by assumption) ?_
  rotate_left
  · intro w hSw; (try dsimp only at hSw); go_simp; first | done | with_reducible rfl
  (try simp only [Act.put, Array.getInternal_eq_getElem, List.getElem_toArray, List.getElem_cons_succ, List.getElem_cons_zero, List.setIfInBounds_toArray, List.set_cons_zero, List.set_cons_succ])
  refine wpAnyH_take (i := 2) (v := ?_) rfl (by kernel_rfl) (by kernel_rfl) (by kernel_rfl) (fun _ _ _ h => h) (Or.inl ⟨by rfl, ?_⟩) (by assumption) ?_
  rotate_left
  · intro w hSw; (try dsimp only at hSw); go_simp; first | done | with_reducible rfl
  (try simp only [Act.put, Array.getInternal_eq_getElem, List.getElem_toArray, List.getElem_cons_succ, List.getElem_cons_zero, List.setIfInBounds_toArray, List.set_cons_zero, List.set_cons_succ])
  refine wpAnyH_take (i := 3) (v := ?_) rfl (by kernel_rfl) (by kernel_rfl) (by kernel_rfl) (fun _ _ _ h => h) (Or.inl ⟨by rfl, ?_⟩) (by assumption) ?_
  rotate_left
  · intro w hSw; (try dsimp only at hSw); go_simp; first | done | with_reducible rfl
  (try simp only [Act.put, Array.getInternal_eq_getElem, List.getElem_toArray, List.getElem_cons_succ, List.getElem_cons_zero, List.setIfInBounds_toArray, List.set_cons_zero, List.set_cons_succ])
  refine wpAnyH_take (i := 4) (v := ?_) rfl (by kernel_rfl) (by kernel_rfl) (by kernel_rfl) (fun _ _ _ h => h) (Or.inl ⟨by rfl, ?_⟩) (by assumption) ?_
  rotate_left
  · intro w hSw; (try dsimp only at hSw); go_simp; first | done | with_reducible rfl
  (try simp only [Act.put, Array.getInternal_eq_getElem, List.getElem_toArray, List.getElem_cons_succ, List.getElem_cons_zero, List.setIfInBounds_toArray, List.set_cons_zero, List.set_cons_succ])
  refine wpAnyH_take (i := 5) (v := ?_) rfl (by kernel_rfl) (by kernel_rfl) (by kernel_rfl) (fun _ _ _ h => h) (Or.inl ⟨by rfl, ?_⟩) (by assumption) ?_
  rotate_left
  · intro w hSw; (try dsimp only at hSw); go_simp; first | done | with_reducible rfl
  (try simp only [Act.put, Array.getInternal_eq_getElem, List.getElem_toArray, List.getElem_cons_succ, List.getElem_cons_zero, List.setIfInBounds_toArray, List.set_cons_zero, List.set_cons_succ])
  refine wpAnyH_take (i := 6) (v := ?_) rfl (by kernel_rfl) (by kernel_rfl) (by kernel_rfl) (fun _ _ _ h => h) (Or.inl ⟨by rfl, ?_⟩) (by assumption) ?_
  rotate_left
  · intro w hSw; (try dsimp only at hSw); go_simp; first | done | with_reducible rfl
  (try simp only [Act.put, Array.getInternal_eq_getElem, List.getElem_toArray, List.getElem_cons_succ, List.getElem_cons_zero, List.setIfInBounds_toArray, List.set_cons_zero, List.set_cons_succ])
  refine wpAnyH_take (i := 7) (v := ?_) rfl (by kernel_rfl) (by kernel_rfl) (by kernel_rfl) (fun _ _ _ h => h) (Or.inl ⟨by rfl, ?_⟩) (by assumption) ?_
  rotate_left
  · intro w hSw; (try dsimp only at hSw); go_simp; first | done | with_reducible rfl
  (try simp only [Act.put, Array.getInternal_eq_getElem, List.getElem_toArray, List.getElem_cons_succ, List.getElem_cons_zero, List.setIfInBounds_toArray, List.set_cons_zero, List.set_cons_succ])
  refine wpAnyH_take (i := 8) (v := ?_) rfl (by kernel_rfl) (by kernel_rfl) (by kernel_rfl) (fun _ _ _ h => h) (Or.inl ⟨by rfl, ?_⟩) (by assumption) ?_
  rotate_left
  · intro w hSw; (try dsimp only at hSw); go_simp; first | done | with_reducible rfl
  (try simp only [Act.put, Array.getInternal_eq_getElem, List.getElem_toArray, List.getElem_cons_succ, List.getElem_cons_zero, List.setIfInBounds_toArray, List.set_cons_zero, List.set_cons_succ])
  refine wpAnyH_ready (rs := [9]) (by kernel_rfl) (by simp) ?_
  refine AllReadyH.cons rfl (fun K hK => ?_) AllReadyH.nil
  go_simp
  refine (at_walk root28 0 3 _).mono ?_
  rintro e w1 ⟨he, hb1⟩
  have HH1 := Lib.hid (HH.out.blk.drew.below hb1 HH.out.blk.drew.lt)
  have HB1 := Lib.hid (show Below w.heap.size w w1 from ((Below.refl _ _).drew).trans (hb1.mono (Nat.le_refl _)))
  clear hb1
  rcases he with ⟨_, q, rfl, tq⟩ | ⟨h, rfl⟩ | ⟨h, rfl⟩
  rotate_left
  · rcases h with h | h | h | h | h
    · omega
    · omega
    · omega
    · omega
    · exact absurd rfl h
  · omega
  have TQ := Lib.hid tq
  clear tq
  (try go_wp2_with fail)
  refine hK.out _ _ (⟨HH1.out.cell (i := 0) rfl, HH1.out.cell (i := 1) rfl⟩) (fun hHeld2 => ?_)
  clear hK K hHeld
  have hHeld := hHeld2
  clear hHeld2
  (try simp only [Act.put, Array.getInternal_eq_getElem, List.getElem_toArray, List.getElem_cons_succ, List.getElem_cons_zero, List.setIfInBounds_toArray, List.set_cons_zero, List.set_cons_succ])
  refine wpAnyH_take (i := 10) (v := ?_) rfl (by kernel_rfl) (by kernel_rfl) (by kernel_rfl) (fun _ _ _ h => h) (Or.inl ⟨by rfl, ?_⟩) (by assumption) ?_
  rotate_left
  · intro w hSw; (try dsimp only at hSw); go_simp; first | done | with_reducible rfl
  (try simp only [Act.put, Array.getInternal_eq_getElem, List.getElem_toArray, List.getElem_cons_succ, List.getElem_cons_zero, List.setIfInBounds_toArray, List.set_cons_zero, List.set_cons_succ])
  refine wpAnyH_take (i := 11) (v := ?_) rfl (by kernel_rfl) (by kernel_rfl) (by kernel_rfl) (fun _ _ _ h => h) (Or.inl ⟨by rfl, ?_⟩) (by assumption) ?_
  rotate_left
  · intro w hSw; (try dsimp only at hSw); go_simp; first | done | with_reducible rfl
  (try simp only [Act.put, Array.getInternal_eq_getElem, List.getElem_toArray, List.getElem_cons_succ, List.getElem_cons_zero, List.setIfInBounds_toArray, List.set_cons_zero, List.set_cons_succ])
  refine wpAnyH_take (i := 12) (v := ?_) rfl (by kernel_rfl) (by kernel_rfl) (by kernel_rfl) (fun _ _ _ h => h) (Or.inl ⟨by rfl, ?_⟩) (by assumption) ?_
  rotate_left
  · intro w hSw; (try dsimp only at hSw); go_simp; first | done | with_reducible rfl
  (try simp only [Act.put, Array.getInternal_eq_getElem, List.getElem_toArray, List.getElem_cons_succ, List.getElem_cons_zero, List.setIfInBounds_toArray, List.set_cons_zero, List.set_cons_succ])
  refine wpAnyH_take (i := 13) (v := ?_) rfl (by kernel_rfl) (by kernel_rfl) (by kernel_rfl) (fun _ _ _ h => h) (Or.inl ⟨by rfl, ?_⟩) (by assumption) ?_
  rotate_left
  · intro w hSw; (try dsimp only at hSw); go_simp; first | done | with_reducible rfl
  (try simp only [Act.put, Array.getInternal_eq_getElem, List.getElem_toArray, List.getElem_cons_succ, List.getElem_cons_zero, List.setIfInBounds_toArray, List.set_cons_zero, List.set_cons_succ])
  refine wpAnyH_take (i := 14) (v := ?_) rfl (by kernel_rfl) (by kernel_rfl) (by kernel_rfl) (fun _ _ _ h => h) (Or.inl ⟨by rfl, ?_⟩) (by assumption) ?_
  rotate_left
  · intro w hSw; (try dsimp only at hSw); go_simp; first | done | with_reducible rfl
  (try simp only [Act.put, Array.getInternal_eq_getElem, List.getElem_toArray, List.getElem_cons_succ, List.getElem_cons_zero, List.setIfInBounds_toArray, List.set_cons_zero, List.set_cons_succ])
  refine wpAnyH_done (by kernel_rfl) ?_ _
  go_wp2_with fail
  go_ret
  exact ⟨⟨q, rfl, by rw [TQ.out.size, atL_length]⟩, HB1.out⟩
/-- A message of the example. -/
def msg28 (kind : Int) (nonce tag : ByteArray) : MsgD := { MsgD.zero with kind := kind, epoch := 3, nonce := nonce, tag := tag }
theorem zero28 : MsgTame MsgD.zero := ⟨by decide, by decide, by decide, by decide, by decide, by decide, by unfold Fits; decide, by decide, by decide, by unfold Fits; decide, by unfold Fits; decide⟩
theorem msg28_tame (kind : Int) (nonce tag : ByteArray) : MsgTame (msg28 kind nonce tag) := by
  obtain ⟨a, b, c, d, e, f, g, h, i, j, k⟩ := zero28
  exact ⟨a, b, c, d, e, f, g, h, i, j, k⟩
set_option maxRecDepth 100000 in
set_option maxHeartbeats 2000000 in
theorem vtag_walk (vb : Nat) (d : VerD) (nonce : ByteArray) (w : World) (h : VerAt w vb d) :
    Calls Tryz.prog 84 #[.pointer (some ⟨vb, 0, none⟩), (msg28 3 nonce ⟨#[]⟩).v (.slice none 0 0) (.slice none 0 0)] w fun e w' => (∃ q : ByteArray, e = .returned (.string q)) ∧ Below w.heap.size w w' := by
  have HH := Lib.hid h
  clear h
  go_enter Tryz.func84, Tryz.ntmps84
  go_wp2_with (first
    | ((with_reducible refine wpList_box_new 39 (.tmp 1) ((msg28 3 nonce ⟨#[]⟩).cells (.slice none 0 0) (.slice none 0 0)) (some 3) ?hgd ?ho ?hd ?hx ?_); (case hgd => rfl); (case ho => rfl); (case hd => rfl); (case hx => rfl); (intro b0 w0 l0 B0 e0 z0); have c3 := B0.cell (i := 3) rfl; have c4 := B0.cell (i := 4) rfl; have f4 := B0.free 4)
    | ((with_reducible refine wpList_store_at 9 (.tmp 9) (.tmp 8) b0 4 (.string nonce) _ _ B0 (Nat.le_of_ble_eq_true rfl) (by kernel_rfl) rfl ?hgd ?ho ?hx ?hy ?_); (case hgd => rfl); (case ho => rfl); (case hx => rfl); (case hy => rfl); (intro w2 B2 o2))
    | fail)
  have HX2 : Hid (Blk w2 b0 ((msg28 3 nonce nonce).cells (.slice none 0 0) (.slice none 0 0)) 39) := Lib.hid B2
  have hb2 : Below w.heap.size w w2 := o2.below (e0.mono l0) l0
  have HV2 := Lib.hid (HH.out.below hb2)
  have HB2 := Lib.hid hb2
  clear c3 c4 f4 B0 B2 o2 hb2 e0 l0 z0
  have hS0 : (fun w' => w'.rangeAt b0 0 ((msg28 3 nonce nonce).cells (.slice none 0 0) (.slice none 0 0)) ∧ w'.cell? ⟨b0, 1, none⟩ = some (.int .i64 3) ∧ VerAt w' vb d) w2.drew := ⟨HX2.out.drew.range, HX2.out.drew.cell (i := 1) rfl, HV2.out.drew⟩
  refine wp_region_held_drew (S := fun w' => w'.rangeAt b0 0 ((msg28 3 nonce nonce).cells (.slice none 0 0) (.slice none 0 0)) ∧ w'.cell? ⟨b0, 1, none⟩ = some (.int .i64 3) ∧ VerAt w' vb d) (by kernel_rfl) (hS0) (fun hHeld => ?_)
  clear hS0
  refine wpAnyH_take (i := 0) (v := ?_) rfl (by kernel_rfl) (by kernel_rfl) (by kernel_rfl) (fun _ _ _ h => h) (Or.inl ⟨by rfl, ?_⟩) (by assumption) ?_
  rotate_left
  · intro w hSw; (try dsimp only at hSw); go_simp; first | done | with_reducible rfl
  (try simp only [Act.put, Array.getInternal_eq_getElem, List.getElem_toArray, List.getElem_cons_succ, List.getElem_cons_zero, List.setIfInBounds_toArray, List.set_cons_zero, List.set_cons_succ])
  refine wpAnyH_take (i := 1) (v := ?_) rfl (by kernel_rfl) (by kernel_rfl) (by kernel_rfl) (fun _ _ _ h => h) (Or.inl ⟨by rfl, ?_⟩) (by assumption) ?_
  rotate_left
  · intro w hSw; (try dsimp only at hSw); go_simp; first | done | with_reducible rfl
  (try simp only [Act.put, Array.getInternal_eq_getElem, List.getElem_toArray, List.getElem_cons_succ, List.getElem_cons_zero, List.setIfInBounds_toArray, List.set_cons_zero, List.set_cons_succ])
  refine wpAnyH_take (i := 2) (v := ?_) rfl (by kernel_rfl) (by kernel_rfl) (by kernel_rfl) (fun _ _ _ h => h) (Or.inl ⟨by rfl, ?_⟩) (by assumption) ?_
  rotate_left
  · intro w hSw; (try dsimp only at hSw); go_simp; first | done | with_reducible rfl
  (try simp only [Act.put, Array.getInternal_eq_getElem, List.getElem_toArray, List.getElem_cons_succ, List.getElem_cons_zero, List.setIfInBounds_toArray, List.set_cons_zero, List.set_cons_succ])
  refine wpAnyH_take (i := 4) (v := .agg ((msg28 3 nonce nonce).cells (.slice none 0 0) (.slice none 0 0)).toArray) rfl (by kernel_rfl) (by kernel_rfl) (by kernel_rfl) (fun _ _ _ h => h) (yieldsIf_load_mid (by rfl) 39 (.tmp 3) rfl b0 0 rfl ((msg28 3 nonce nonce).cells (.slice none 0 0) (.slice none 0 0)) _ (fun w h => h.1) Tryz.underlying39 rfl sizeMsg) (by assumption) ?_
  (try simp only [Act.put, Array.getInternal_eq_getElem, List.getElem_toArray, List.getElem_cons_succ, List.getElem_cons_zero, List.setIfInBounds_toArray, List.set_cons_zero, List.set_cons_succ])
  refine wpAnyH_ready (rs := [3]) (by kernel_rfl) (by simp) ?_
  refine AllReadyH.cons rfl (fun K hK => ?_) AllReadyH.nil
  go_simp
  refine (vkey_walk vb d _ HV2.out.drew).mono ?_
  rintro e w3 ⟨⟨q, rfl, hq⟩, hb3⟩
  have HX3 := Lib.hid (HX2.out.drew.below hb3 HX2.out.drew.lt)
  have HV3 := Lib.hid (HV2.out.drew.below hb3)
  have HB3 := Lib.hid (HB2.out.drew.trans (hb3.mono HB2.out.drew.size))
  clear hb3
  (try go_wp2_with fail)
  refine hK.out _ _ (⟨HX3.out.range, HX3.out.cell (i := 1) rfl, HV3.out⟩) (fun hHeld2 => ?_)
  clear hK K hHeld
  have hHeld := hHeld2
  clear hHeld2
  (try simp only [Act.put, Array.getInternal_eq_getElem, List.getElem_toArray, List.getElem_cons_succ, List.getElem_cons_zero, List.setIfInBounds_toArray, List.set_cons_zero, List.set_cons_succ])
  refine wpAnyH_ready (rs := [5]) (by kernel_rfl) (by simp) ?_
  refine AllReadyH.cons rfl (fun K hK => ?_) AllReadyH.nil
  go_simp
  refine (tag27_walk q (msg28 3 nonce nonce) _ _ _ (PathIn.nil _ _) (PathIn.nil _ _) (msg28_tame 3 nonce nonce)).mono ?_
  rintro e w4 ⟨he, hb4⟩
  have HX4 := Lib.hid (HX3.out.below hb4 HX3.out.lt)
  have HV4 := Lib.hid (HV3.out.below hb4)
  have HB4 := Lib.hid (HB3.out.trans (hb4.mono HB3.out.size))
  clear hb4
  obtain ⟨tg, n, rfl⟩ : ∃ (tg : ByteArray) (n : Int), e = .returned (.tuple #[.string tg, .int .i64 n]) := by
    rcases he with ⟨_, r, h, _⟩ | ⟨_, h⟩
    · exact ⟨r, 0, h⟩
    · exact ⟨_, 2, h⟩
  clear he
  (try go_wp2_with fail)
  refine hK.out _ _ (⟨HX4.out.range, HX4.out.cell (i := 1) rfl, HV4.out⟩) (fun hHeld2 => ?_)
  clear hK K hHeld
  have hHeld := hHeld2
  clear hHeld2
  (try simp only [Act.put, Array.getInternal_eq_getElem, List.getElem_toArray, List.getElem_cons_succ, List.getElem_cons_zero, List.setIfInBounds_toArray, List.set_cons_zero, List.set_cons_succ])
  refine wpAnyH_take (i := 6) (v := ?_) rfl (by kernel_rfl) (by kernel_rfl) (by kernel_rfl) (fun _ _ _ h => h) (Or.inl ⟨by rfl, ?_⟩) (by assumption) ?_
  rotate_left
  · intro w hSw; (try dsimp only at hSw); go_simp; first | done | with_reducible rfl
  (try simp only [Act.put, Array.getInternal_eq_getElem, List.getElem_toArray, List.getElem_cons_succ, List.getElem_cons_zero, List.setIfInBounds_toArray, List.set_cons_zero, List.set_cons_succ])
  refine wpAnyH_take (i := 7) (v := ?_) rfl (by kernel_rfl) (by kernel_rfl) (by kernel_rfl) (fun _ _ _ h => h) (Or.inl ⟨by rfl, ?_⟩) (by assumption) ?_
  rotate_left
  · intro w hSw; (try dsimp only at hSw); go_simp; first | done | with_reducible rfl
  (try simp only [Act.put, Array.getInternal_eq_getElem, List.getElem_toArray, List.getElem_cons_succ, List.getElem_cons_zero, List.setIfInBounds_toArray, List.set_cons_zero, List.set_cons_succ])
  refine wpAnyH_take (i := 8) (v := ?_) rfl (by kernel_rfl) (by kernel_rfl) (by kernel_rfl) (fun _ _ _ h => h) (Or.inl ⟨by rfl, ?_⟩) (by assumption) ?_
  rotate_left
  · intro w hSw; (try dsimp only at hSw); go_simp; first | done | with_reducible rfl
  (try simp only [Act.put, Array.getInternal_eq_getElem, List.getElem_toArray, List.getElem_cons_succ, List.getElem_cons_zero, List.setIfInBounds_toArray, List.set_cons_zero, List.set_cons_succ])
  refine wpAnyH_take (i := 9) (v := ?_) rfl (by kernel_rfl) (by kernel_rfl) (by kernel_rfl) (fun _ _ _ h => h) (Or.inl ⟨by rfl, ?_⟩) (by assumption) ?_
  rotate_left
  · intro w hSw; (try dsimp only at hSw); go_simp; first | done | with_reducible rfl
  (try simp only [Act.put, Array.getInternal_eq_getElem, List.getElem_toArray, List.getElem_cons_succ, List.getElem_cons_zero, List.setIfInBounds_toArray, List.set_cons_zero, List.set_cons_succ])
  refine wpAnyH_take (i := 10) (v := ?_) rfl (by kernel_rfl) (by kernel_rfl) (by kernel_rfl) (fun _ _ _ h => h) (Or.inl ⟨by rfl, ?_⟩) (by assumption) ?_
  rotate_left
  · intro w hSw; (try dsimp only at hSw); go_simp; first | done | with_reducible rfl
  (try simp only [Act.put, Array.getInternal_eq_getElem, List.getElem_toArray, List.getElem_cons_succ, List.getElem_cons_zero, List.setIfInBounds_toArray, List.set_cons_zero, List.set_cons_succ])
  refine wpAnyH_done (by kernel_rfl) ?_ _
  go_wp2_with fail
  go_ret
  exact ⟨⟨tg, rfl⟩, HB4.out⟩
end Go.Proofs.YtidekfbgjghcjaaGreat
namespace Go.Proofs.YtidekfbgjghcjaaGreat
set_option linter.unusedSimpArgs false
set_option linter.unusedVariables false
open Go Go.RowKit
set_option linter.unusedVariables false

/-- A session that has begun. -/
def sesCells (nonce : ByteArray) (asks : Value) : List Value := .int .i64 1 :: .int .i64 0 :: .string nonce :: asks :: .int .i64 0 :: (MsgD.zero.cells (.slice none 0 0) (.slice none 0 0) ++ [.slice none 0 0, .pointer none, .slice none 0 0, .slice none 0 0])
theorem builtSes (s : ByteArray) (p : Option Addr) (n c : Nat) : Tryz.prog.built 92 [(0, .int .i64 1), (2, .string s), (3, .slice p n c)] = some (sesCells s (.slice p n c)).toArray := by kernel_rfl
theorem sizeSes {s : ByteArray} {v : Value} : (Tryz.prog.info? 92).map (·.size) = some (sesCells s v).length := by kernel_rfl
theorem sesOne (s : ByteArray) (p : Option Addr) (n c : Nat) : ∀ v ∈ sesCells s (.slice p n c), v.oneCell' = true := by
  intro v hv
  simp only [sesCells, List.mem_cons, List.mem_append] at hv
  rcases hv with rfl | rfl | rfl | rfl | rfl | hv | hv
  · rfl
  · rfl
  · rfl
  · rfl
  · rfl
  · exact mcells_one nil_shape nil_shape v hv
  · simp at hv; rcases hv with rfl | rfl | rfl <;> rfl
set_option maxRecDepth 100000 in
set_option maxHeartbeats 2000000 in
theorem vbegin_walk (vb : Nat) (d : VerD) (pa : Option Addr) (na ca : Nat) (W0 w : World) (h : VerAt w vb d) (hn : d.nonces = 0) (hb : Below W0.heap.size W0 w) (hvb : W0.heap.size ≤ vb) :
    Calls Tryz.prog 87 #[.pointer (some ⟨vb, 0, none⟩), .slice pa na ca] w fun e w' => (e = .returned (.tuple #[]) ∧ ∃ nonce : ByteArray, nonce.size = 32 ∧ VerAt w' vb { d with nonces := 1, state := 1, nonce := nonce, asks := .slice pa na ca, epoch := 0 }) ∧ Below W0.heap.size W0 w' := by
  have HH := Lib.hid h
  have HB := Lib.hid hb
  have HC5 := Lib.hid (show w.drew.cell? ⟨vb, 5, none⟩ = some (.int .i64 0) by rw [← hn]; exact h.blk.drew.cell (i := 5) rfl)
  clear h hb hn
  go_enter Tryz.func87, Tryz.ntmps87
  go_wp2_with fail
  have hS0 : (fun w' => w'.cell? ⟨vb, 0, none⟩ = some (.string root28) ∧ w'.cell? ⟨vb, 5, none⟩ = some (.int .i64 0)) w.drew := ⟨HH.out.blk.drew.cell (i := 0) rfl, HC5.out⟩
  refine wp_region_held_drew (S := fun w' => w'.cell? ⟨vb, 0, none⟩ = some (.string root28) ∧ w'.cell? ⟨vb, 5, none⟩ = some (.int .i64 0)) (by kernel_rfl) (hS0) (fun hHeld => ?_)
  clear hS0
  refine wpAnyH_take (i := 0) (v := ?_) rfl (by kernel_rfl) (by kernel_rfl) (by kernel_rfl) (fun _ _ _ h => h) (Or.inl ⟨by rfl, ?_⟩) (by assumption) ?_
  rotate_left
  · intro w hSw; (try dsimp only at hSw); go_simp; first | done | with_reducible rfl
  (try simp only [Act.put, Array.getInternal_eq_getElem, List.getElem_toArray, List.getElem_cons_succ, List.getElem_cons_zero, List.setIfInBounds_toArray, List.set_cons_zero, List.set_cons_succ])
  refine wpAnyH_take (i := 1) (v := ?_) rfl (by kernel_rfl) (by kernel_rfl) (by kernel_rfl) (fun _ _ _ h => h) (Or.inl ⟨by rfl, ?_⟩) (by assumption) ?_
  rotate_left
  · intro w hSw; (try dsimp only at hSw); go_simp; first | done | with_reducible rfl
  (try simp only [Act.put, Array.getInternal_eq_getElem, List.getElem_toArray, List.getElem_cons_succ, List.getElem_cons_zero, List.setIfInBounds_toArray, List.set_cons_zero, List.set_cons_succ])
  refine wpAnyH_take (i := 2) (v := ?_) rfl (by kernel_rfl) (by kernel_rfl) (by kernel_rfl) (fun _ _ _ h => h) (Or.inl ⟨by rfl, ?_⟩) (by assumption) ?_
  rotate_left
  · intro w hSw; (try dsimp only at hSw); go_simp; first | done | with_reducible rfl
  (try simp only [Act.put, Array.getInternal_eq_getElem, List.getElem_toArray, List.getElem_cons_succ, List.getElem_cons_zero, List.setIfInBounds_toArray, List.set_cons_zero, List.set_cons_succ])
  refine wpAnyH_take (i := 3) (v := ?_) rfl (by kernel_rfl) (by kernel_rfl) (by kernel_rfl) (fun _ _ _ h => h) (Or.inl ⟨by rfl, ?_⟩) (by assumption) ?_
  rotate_left
  · intro w hSw; (try dsimp only at hSw); go_simp; first | done | with_reducible rfl
  (try simp only [Act.put, Array.getInternal_eq_getElem, List.getElem_toArray, List.getElem_cons_succ, List.getElem_cons_zero, List.setIfInBounds_toArray, List.set_cons_zero, List.set_cons_succ])
  refine wpAnyH_take (i := 4) (v := ?_) rfl (by kernel_rfl) (by kernel_rfl) (by kernel_rfl) (fun _ _ _ h => h) (Or.inl ⟨by rfl, ?_⟩) (by assumption) ?_
  rotate_left
  · intro w hSw; (try dsimp only at hSw); go_simp; first | done | with_reducible rfl
  (try simp only [Act.put, Array.getInternal_eq_getElem, List.getElem_toArray, List.getElem_cons_succ, List.getElem_cons_zero, List.setIfInBounds_toArray, List.set_cons_zero, List.set_cons_succ])
  refine wpAnyH_take (i := 5) (v := ?_) rfl (by kernel_rfl) (by kernel_rfl) (by kernel_rfl) (fun _ _ _ h => h) (Or.inl ⟨by rfl, ?_⟩) (by assumption) ?_
  rotate_left
  · intro w hSw; (try dsimp only at hSw); go_simp; first | done | with_reducible rfl
  (try simp only [Act.put, Array.getInternal_eq_getElem, List.getElem_toArray, List.getElem_cons_succ, List.getElem_cons_zero, List.setIfInBounds_toArray, List.set_cons_zero, List.set_cons_succ])
  refine wpAnyH_take (i := 6) (v := ?_) rfl (by kernel_rfl) (by kernel_rfl) (by kernel_rfl) (fun _ _ _ h => h) (Or.inl ⟨by rfl, ?_⟩) (by assumption) ?_
  rotate_left
  · intro w hSw; (try dsimp only at hSw); go_simp; first | done | with_reducible rfl
  (try simp only [Act.put, Array.getInternal_eq_getElem, List.getElem_toArray, List.getElem_cons_succ, List.getElem_cons_zero, List.setIfInBounds_toArray, List.set_cons_zero, List.set_cons_succ])
  refine wpAnyH_take (i := 7) (v := ?_) rfl (by kernel_rfl) (by kernel_rfl) (by kernel_rfl) (fun _ _ _ h => h) (Or.inl ⟨by rfl, ?_⟩) (by assumption) ?_
  rotate_left
  · intro w hSw; (try dsimp only at hSw); go_simp; first | done | with_reducible rfl
  (try simp only [Act.put, Array.getInternal_eq_getElem, List.getElem_toArray, List.getElem_cons_succ, List.getElem_cons_zero, List.setIfInBounds_toArray, List.set_cons_zero, List.set_cons_succ])
  refine wpAnyH_ready (rs := [8]) (by kernel_rfl) (by simp) ?_
  refine AllReadyH.cons rfl (fun K hK => ?_) AllReadyH.nil
  go_simp
  obtain ⟨w1, hw1⟩ : ∃ w1, w1 = (w.alloc (Obj.cells #[Value.int IntKind.i64 0] 3)).drew := ⟨_, rfl⟩
  rw [← hw1]
  have hb1 : Below w.heap.size w w1 := by rw [hw1]; exact ((Below.refl _ _).alloc (Nat.le_refl _) _).drew
  have B1 : Blk w1 w.heap.size [.int .i64 0] 3 := by rw [hw1]; exact (Blk.new w [.int .i64 0] _).drew
  have HG1 := Lib.hid B1
  have HH1 := Lib.hid (HH.out.below hb1)
  have HB1 := Lib.hid (HB.out.trans (hb1.mono HB.out.size))
  have HC1 := Lib.hid (show w1.cell? ⟨vb, 5, none⟩ = some (.int .i64 0) by rw [hb1.cell (by show vb < w.heap.size; exact HH.out.blk.lt)]; exact HC5.out)
  clear hb1 B1 hw1
  (try go_wp2_with fail)
  refine hK.out _ _ (⟨HH1.out.blk.cell (i := 0) rfl, HC1.out⟩) (fun hHeld2 => ?_)
  clear hK K hHeld
  have hHeld := hHeld2
  clear hHeld2
  (try simp only [Act.put, Array.getInternal_eq_getElem, List.getElem_toArray, List.getElem_cons_succ, List.getElem_cons_zero, List.setIfInBounds_toArray, List.set_cons_zero, List.set_cons_succ])
  refine wpAnyH_ready (rs := [9]) (by kernel_rfl) (by simp) ?_
  refine AllReadyH.cons rfl (fun K hK => ?_) AllReadyH.nil
  go_simp
  refine (key_walk root28 ⟨#[110, 111, 110, 99, 101]⟩ _ [0] _ (by decide) (IntRow.blk (xs := [0]) HG1.out rfl 1) (fun j x h => by cases j with
    | zero => simp at h; omega
    | succ j => simp at h) (by simp)).mono ?_
  rintro e w2 ⟨he, hb2⟩
  have HH2 := Lib.hid (HH1.out.below hb2)
  have HB2 := Lib.hid (HB1.out.trans (hb2.mono HB1.out.size))
  have HC2 := Lib.hid (show w2.cell? ⟨vb, 5, none⟩ = some (.int .i64 0) by rw [hb2.cell (by show vb < w1.heap.size; exact HH1.out.blk.lt)]; exact HC1.out)
  clear hb2
  rcases he with ⟨_, nonce, rfl, tq⟩ | ⟨h, _⟩
  rotate_left
  · exact absurd h (by decide)
  have HQ := Lib.hid (show nonce.size = 32 by rw [tq.size, mac_length])
  clear tq
  (try go_wp2_with fail)
  refine hK.out _ _ (⟨HH2.out.blk.cell (i := 0) rfl, HC2.out⟩) (fun hHeld2 => ?_)
  clear hK K hHeld
  have hHeld := hHeld2
  clear hHeld2
  (try simp only [Act.put, Array.getInternal_eq_getElem, List.getElem_toArray, List.getElem_cons_succ, List.getElem_cons_zero, List.setIfInBounds_toArray, List.set_cons_zero, List.set_cons_succ])
  refine wpAnyH_take (i := 10) (v := ?_) rfl (by kernel_rfl) (by kernel_rfl) (by kernel_rfl) (fun _ _ _ h => h) (Or.inl ⟨by rfl, ?_⟩) (by assumption) ?_
  rotate_left
  · intro w hSw; (try dsimp only at hSw); go_simp; first | done | with_reducible rfl
  (try simp only [Act.put, Array.getInternal_eq_getElem, List.getElem_toArray, List.getElem_cons_succ, List.getElem_cons_zero, List.setIfInBounds_toArray, List.set_cons_zero, List.set_cons_succ])
  refine wpAnyH_take (i := 11) (v := ?_) rfl (by kernel_rfl) (by kernel_rfl) (by kernel_rfl) (fun _ _ _ h => h) (Or.inl ⟨by rfl, ?_⟩) (by assumption) ?_
  rotate_left
  · intro w hSw; (try dsimp only at hSw); go_simp; first | done | with_reducible rfl
  (try simp only [Act.put, Array.getInternal_eq_getElem, List.getElem_toArray, List.getElem_cons_succ, List.getElem_cons_zero, List.setIfInBounds_toArray, List.set_cons_zero, List.set_cons_succ])
  refine wpAnyH_take (i := 12) (v := ?_) rfl (by kernel_rfl) (by kernel_rfl) (by kernel_rfl) (fun _ _ _ h => h) (Or.inl ⟨by rfl, ?_⟩) (by assumption) ?_
  rotate_left
  · intro w hSw; (try dsimp only at hSw); go_simp; first | done | with_reducible rfl
  (try simp only [Act.put, Array.getInternal_eq_getElem, List.getElem_toArray, List.getElem_cons_succ, List.getElem_cons_zero, List.setIfInBounds_toArray, List.set_cons_zero, List.set_cons_succ])
  refine wpAnyH_take (i := 13) (v := ?_) rfl (by kernel_rfl) (by kernel_rfl) (by kernel_rfl) (fun _ _ _ h => h) (Or.inl ⟨by rfl, ?_⟩) (by assumption) ?_
  rotate_left
  · intro w hSw; (try dsimp only at hSw); go_simp; first | done | with_reducible rfl
  (try simp only [Act.put, Array.getInternal_eq_getElem, List.getElem_toArray, List.getElem_cons_succ, List.getElem_cons_zero, List.setIfInBounds_toArray, List.set_cons_zero, List.set_cons_succ])
  refine wpAnyH_take (i := 14) (v := ?_) rfl (by kernel_rfl) (by kernel_rfl) (by kernel_rfl) (fun _ _ _ h => h) (Or.inl ⟨by rfl, ?_⟩) (by assumption) ?_
  rotate_left
  · intro w hSw; (try dsimp only at hSw); go_simp; first | done | with_reducible rfl
  (try simp only [Act.put, Array.getInternal_eq_getElem, List.getElem_toArray, List.getElem_cons_succ, List.getElem_cons_zero, List.setIfInBounds_toArray, List.set_cons_zero, List.set_cons_succ])
  refine wpAnyH_done (by kernel_rfl) ?_ _
  have c5 := HC2.out
  have B2 := HH2.out.blk
  have f5 := B2.free 5
  go_wp2_with (first
    | ((with_reducible refine wpList_store_at 3 (.tmp 25) (.tmp 23) vb 5 (.int .i64 1) _ _ B2 (Nat.le_of_ble_eq_true rfl) (by kernel_rfl) rfl ?hgd ?ho ?hx ?hy ?_); (case hgd => rfl); (case ho => rfl); (case hx => rfl); (case hy => rfl); (intro w3 B3 o3))
    | ((with_reducible refine wpList_build_eq 92 ?parts (sesCells nonce (.slice pa na ca)) ?hg ?ho ?hf ?_); (case hg => rfl); (case ho => rfl); (case hf => exact builtSes _ _ _ _))
    | ((with_reducible refine wpList_store_part 92 (.tmp 31) (.tmp 29) vb 6 (sesCells nonce (.slice pa na ca)) _ _ B3 (Nat.le_of_ble_eq_true rfl) sizeSes (sesOne _ _ _ _) ?hgd ?ho ?hx ?hy ?_); (case hgd => rfl); (case ho => rfl); (case hx => rfl); (case hy => rfl); (intro w4 B4 o4))
    | fail)
  go_end0
  refine ⟨⟨rfl, nonce, HQ.out, ?_⟩, ?_⟩
  · exact (HH2.out.only o3 (d' := { d with nonces := 1 }) rfl B3).only o4 (d' := { d with nonces := 1, state := 1, nonce := nonce, asks := .slice pa na ca, epoch := 0 }) rfl B4
  · exact o4.below (o3.below HB2.out hvb) hvb

end Go.Proofs.YtidekfbgjghcjaaGreat
namespace Go.Proofs.YtidekfbgjghcjaaGreat
set_option linter.unusedSimpArgs false
set_option linter.unusedVariables false
open Go Go.RowKit
set_option linter.unusedVariables false

theorem infoAsk28 : (Tryz.prog.info? 23).map (fun i => (i.zero, i.size, i.bytes)) = some (some (.agg #[.int .i64 0, .int .i64 0]), 2, 16) := by kernel_rfl
theorem zeroAsk28 (w : World) : Sem.run Tryz.prog (zeroValue 23) w = .ok (.agg #[.int .i64 0, .int .i64 0]) w := by kernel_rfl
theorem sizeAsk28 {a b : Value} : (Tryz.prog.info? 23).map (·.size) = some [a, b].length := by kernel_rfl
theorem askOne28 : ∀ v ∈ ([.int .i64 0, .int .i64 0] : List Value), v.oneCell' = true := by intro v hv; simp at hv; subst hv; rfl
set_option maxRecDepth 100000 in
set_option maxHeartbeats 1000000 in
theorem askClone_walk (g c : Nat) (w : World) (h : Blk w g [.int .i64 0, .int .i64 0] 23) :
    Calls Tryz.prog 88 #[.slice (some ⟨g, 0, none⟩) 1 c] w fun e w' => (∃ p n c, e = .returned (.slice p n c)) ∧ Below w.heap.size w w' := by
  have HG := Lib.hid h
  clear h
  obtain ⟨i0, hi, hz0, hz1, hz2⟩ := info_parts infoAsk28
  have hnn : ∀ w, (binOp .eql 77 (.slice (some ⟨g, 0, none⟩) 1 c) (.slice none 0 0)).run Tryz.prog w = .ok (.bool false) w := fun w => Lib.run_eql_slice_nil w 77 23 (some ⟨g, 0, none⟩) 1 c 0 0 Tryz.underlying77
  go_enter Tryz.func88, Tryz.ntmps88
  go_wp2_with (first
    | (at_builtin; refine wpList_append_own_wide _ rfl _ _ 77 rfl w.heap.size 23 i0 (.agg #[.int .i64 0, .int .i64 0]) 2 16 Tryz.underlying77 hi hz0 hz1 hz2 rfl (by decide) _ 0 _ rfl (World.ownsRow_lit w #[] 0 (Nat.le_refl _) (by decide) rfl) ⟨g, 0, none⟩ 1 c [.int .i64 0, .int .i64 0] rfl rfl (cells_add (HG.out.below ((Below.refl _ _).alloc (Nat.le_refl _) _) HG.out.lt)) askOne28 (by unfold maxLen; omega) (by omega) (by simp) ?_; intro v' w8 own8 grow8 nil8)
    | fail)
  have hb8 : Below w.heap.size w w8 := below_own ((Below.refl _ _).alloc (Nat.le_refl _) _) (World.ownsRow_lit (e := 23) (size := 2) w #[] 0 (Nat.le_refl _) (by decide) rfl) grow8 (Nat.le_refl _) (by simp)
  obtain ⟨p, c', hv⟩ := own_shape own8
  subst hv
  go_ret
  exact ⟨⟨_, _, _, rfl⟩, hb8⟩
set_option maxRecDepth 100000 in
set_option maxHeartbeats 2000000 in
theorem vStart_walk (vb g c : Nat) (d : VerD) (W0 w : World) (h : VerAt w vb d) (hn : d.nonces = 0) (hg : Blk w g [.int .i64 0, .int .i64 0] 23) (hb : Below W0.heap.size W0 w) (hvb : W0.heap.size ≤ vb) :
    Calls Tryz.prog 36 #[.pointer (some ⟨vb, 0, none⟩), .slice (some ⟨g, 0, none⟩) 1 c] w fun e w' => (e = .returned (.int .i64 0) ∧ ∃ (nonce : ByteArray) (pa : Option Addr) (na ca : Nat), nonce.size = 32 ∧ VerAt w' vb { d with nonces := 1, state := 1, nonce := nonce, asks := .slice pa na ca, epoch := 0 }) ∧ Below W0.heap.size W0 w' := by
  have HH := Lib.hid h
  have HB := Lib.hid hb
  have HN := Lib.hid hn
  have HG := Lib.hid hg
  clear h hb hg hn
  go_enter Tryz.func36, Tryz.ntmps36
  go_wp2_with fail
  refine (vthere_yes vb d _ HH.out).mono ?_
  rintro e w1 ⟨rfl, rfl⟩
  go_wp2_with fail
  go_loopw [20] (fun i wr => ∃ k : Nat, k ≤ 1 ∧ i = .int .i64 k ∧ Below w.heap.size w wr) (fun i _ => 1 - (intOf i).toNat)
  case atStart => exact ⟨0, by omega, rfl, Below.refl _ _⟩
  case round =>
    obtain ⟨k, hk, rfl, hbel⟩ := hrel
    have HR := Lib.hid hbel
    clear hbel
    by_cases hk0 : k = 0
    · subst hk0
      have RG := HG.out.below HR.out HG.out.lt
      have r0 := RG.cell (i := 0) rfl
      have r1 := RG.cell (i := 1) rfl
      clear RG
      go_wp2_with (first
        | ((with_reducible refine wpList_alloc_new 23 [.int .i64 0, .int .i64 0] zeroAsk28 (some 6) ?hgd ?ho ?hd ?_); (case hgd => rfl); (case ho => rfl); (case hd => rfl); (intro b5 w5 l5 B5 e5 z5))
        | ((with_reducible refine wpList_store_new 23 (.tmp 6) (.tmp 23) b5 [.int .i64 0, .int .i64 0] [.int .i64 0, .int .i64 0] 23 B5 rfl sizeAsk28 askOne28 ?hgd ?ho ?hx ?hy ?_); (case hgd => rfl); (case ho => rfl); (case hx => rfl); (case hy => rfl); (intro w6 B6 o6); have hb6 := o6.below (e5.mono l5) l5; have d0 := B6.cell (i := 0) rfl; have d1 := B6.cell (i := 1) rfl)
        | fail)
      go_roundw
      case rel => exact ⟨1, by omega, by go_num, HR.out.trans (hb6.mono HR.out.size)⟩
      case measure => simp [intOf]
    · obtain rfl : k = 1 := by omega
      go_wp2_with fail
      refine (askClone_walk g c _ (HG.out.below HR.out HG.out.lt)).mono ?_
      rintro e w2 ⟨⟨p, n, c', rfl⟩, hb2⟩
      have HBB := Lib.hid (HR.out.trans (hb2.mono HR.out.size))
      have HV2 := Lib.hid (HH.out.below HBB.out)
      clear hb2
      go_wp2_with fail
      refine (vbegin_walk vb d p n c' W0 _ HV2.out HN.out (HB.out.trans (HBB.out.mono HB.out.size)) hvb).mono ?_
      rintro e w3 ⟨⟨rfl, nonce, hq, hv3⟩, hb3⟩
      have HQ := Lib.hid hq
      have HV3 := Lib.hid hv3
      have HB3 := Lib.hid hb3
      clear hq hv3 hb3
      go_wp2_with fail
      go_ret
      exact ⟨⟨rfl, nonce, p, n, c', HQ.out, HV3.out⟩, HB3.out⟩
end Go.Proofs.YtidekfbgjghcjaaGreat
namespace Go.Proofs.YtidekfbgjghcjaaGreat
set_option linter.unusedSimpArgs false
set_option linter.unusedVariables false
open Go Go.RowKit
set_option linter.unusedVariables false

theorem builtNon (s : ByteArray) : Tryz.prog.built 39 [(3, .string s)] = some (({ MsgD.zero with nonce := s } : MsgD).cells (.slice none 0 0) (.slice none 0 0)).toArray := by kernel_rfl
set_option maxRecDepth 100000 in
set_option maxHeartbeats 2000000 in
theorem vOut_hello (vb cb m1 m2 : Nat) (nn ep : Int) (nonce : ByteArray) (asks : Value) (w : World) (h : VerAt w vb { cb := cb, m1 := m1, m2 := m2, nonces := nn, state := 1, nonce := nonce, asks := asks, epoch := ep }) :
    Calls Tryz.prog 31 #[.pointer (some ⟨vb, 0, none⟩)] w fun e w' => e = .returned (.tuple #[({ MsgD.zero with kind := 1, nonce := nonce } : MsgD).v (.slice none 0 0) (.slice none 0 0), .bool true]) ∧ Below w.heap.size w w' := by
  have HH := Lib.hid h
  clear h
  go_enter Tryz.func31, Tryz.ntmps31
  go_wp2_with (first
    | ((with_reducible refine wpList_alloc_new 39 mzero zeroMsgB (some 2) ?hgd ?ho ?hd ?_); (case hgd => rfl); (case ho => rfl); (case hd => rfl); (intro b1 w1 l1 B1 e1 z1))
    | fail)
  have HB1 := Lib.hid (show Below w.heap.size w w1 from e1.mono l1)
  have f1 : w.heap.size ≤ b1 := l1
  have HX1 := Lib.hid B1
  have HV1 := Lib.hid (HH.out.below HB1.out)
  clear B1 e1 l1 z1
  refine (vthere_yes vb _ _ HV1.out).mono ?_
  rintro e w2 ⟨rfl, hw2⟩
  subst hw2
  have v6 : w1.cell? ⟨vb, 6, none⟩ = some (.int .i64 1) := HV1.out.blk.cell (i := 6) rfl
  have v8 : w1.cell? ⟨vb, 8, none⟩ = some (.string nonce) := HV1.out.blk.cell (i := 8) rfl
  go_upto_region 4 with (first
    | ((with_reducible refine wpList_build_eq 39 ?parts (({ MsgD.zero with nonce := nonce } : MsgD).cells (.slice none 0 0) (.slice none 0 0)) ?hg ?ho ?hf ?_); (case hg => rfl); (case ho => rfl); (case hf => exact builtNon _))
    | ((with_reducible refine wpList_alloc_new 39 mzero zeroMsgB (some 4) ?hgd ?ho ?hd ?_); (case hgd => rfl); (case ho => rfl); (case hd => rfl); (intro b3 w3 l3 B3 e3 z3))
    | ((with_reducible refine wpList_store_new 39 (.tmp 4) (.tmp 14) b3 mzero (({ MsgD.zero with nonce := nonce } : MsgD).cells (.slice none 0 0) (.slice none 0 0)) 39 B3 rfl sizeMsg (mcells_one nil_shape nil_shape) ?hgd ?ho ?hx ?hy ?_); (case hgd => rfl); (case ho => rfl); (case hx => rfl); (case hy => rfl); (intro w4 B4 o4))
    | fail)
  have hb4 : Below w1.heap.size w1 w4 := o4.below (e3.mono l3) l3
  have HV4 := Lib.hid (HV1.out.below hb4)
  have HX4 := Lib.hid (HX1.out.below hb4 HX1.out.lt)
  have HY4 := Lib.hid B4
  have H14 := Lib.hid hb4
  have f13 : w1.heap.size ≤ b3 := l3
  have h13 : b1 ≠ b3 := by have := HX1.out.lt; omega
  have f3 : w.heap.size ≤ b3 := by have := HB1.out.size; omega
  have HB4 := Lib.hid (HB1.out.trans (hb4.mono HB1.out.size))
  clear B3 B4 o4 e3 l3 z3 hb4 v6 v8
  have v6 : w4.cell? ⟨vb, 6, none⟩ = some (.int .i64 1) := HV4.out.blk.cell (i := 6) rfl
  go_wp2_with (first
    | ((with_reducible refine wpList_store_at 3 (.tmp 23) (.const (.int .i64 1)) b3 0 (.int .i64 1) _ _ HY4.out (Nat.le_of_ble_eq_true rfl) (by kernel_rfl) rfl ?hgd ?ho ?hx ?hy ?_); (case hgd => rfl); (case ho => rfl); (case hx => rfl); (case hy => rfl); (intro w5 B5 o5); have HX5 := o5.blk HX4.out h13; replace B5 : Blk w5 b3 (({ MsgD.zero with kind := 1, nonce := nonce } : MsgD).cells (.slice none 0 0) (.slice none 0 0)) 39 := B5)
    | ((with_reducible refine wpList_load_met 39 (.tmp 4) b3 0 (({ MsgD.zero with kind := 1, nonce := nonce } : MsgD).cells (.slice none 0 0) (.slice none 0 0)) _ (some 64) (B5).range Tryz.underlying39 rfl sizeMsg ?hg ?ho ?hds ?hx ?_); (case ho => rfl); (case hg => rfl); (case hds => rfl); (case hx => rfl))
    | ((with_reducible refine wpList_store_new 39 (.tmp 2) (.tmp 64) b1 mzero (({ MsgD.zero with kind := 1, nonce := nonce } : MsgD).cells (.slice none 0 0) (.slice none 0 0)) 39 HX5 rfl sizeMsg (mcells_one nil_shape nil_shape) ?hgd ?ho ?hx ?hy ?_); (case hgd => rfl); (case ho => rfl); (case hx => rfl); (case hy => rfl); (intro w9 B9 o9))
    | fail)
  (try simp only [Exit.inBlock, Exit.then])
  refine bodyPost_ret (results_cmv rfl _ _ B9.range rfl Tryz.underlying39 rfl sizeMsg) rfl ⟨rfl, o9.below (o5.below HB4.out f3) f1⟩
set_option maxRecDepth 100000 in
set_option maxHeartbeats 2000000 in
theorem vOut_asked (vb cb m1 m2 : Nat) (nn ep : Int) (nonce : ByteArray) (asks : Value) (w : World) (h : VerAt w vb { cb := cb, m1 := m1, m2 := m2, nonces := nn, state := 2, nonce := nonce, asks := asks, epoch := ep }) (he : ep = 3) :
    Calls Tryz.prog 31 #[.pointer (some ⟨vb, 0, none⟩)] w fun e w' => (∃ t : ByteArray, e = .returned (.tuple #[(msg28 3 nonce t).v (.slice none 0 0) (.slice none 0 0), .bool true])) ∧ Below w.heap.size w w' := by
  subst he
  have HH := Lib.hid h
  clear h
  go_enter Tryz.func31, Tryz.ntmps31
  go_wp2_with (first
    | ((with_reducible refine wpList_alloc_new 39 mzero zeroMsgB (some 2) ?hgd ?ho ?hd ?_); (case hgd => rfl); (case ho => rfl); (case hd => rfl); (intro b1 w1 l1 B1 e1 z1))
    | fail)
  have HB1 := Lib.hid (show Below w.heap.size w w1 from e1.mono l1)
  have f1 : w.heap.size ≤ b1 := l1
  have HX1 := Lib.hid B1
  have HV1 := Lib.hid (HH.out.below HB1.out)
  clear B1 e1 l1 z1
  refine (vthere_yes vb _ _ HV1.out).mono ?_
  rintro e w2 ⟨rfl, hw2⟩
  subst hw2
  have v6 : w1.cell? ⟨vb, 6, none⟩ = some (.int .i64 2) := HV1.out.blk.cell (i := 6) rfl
  have v8 : w1.cell? ⟨vb, 8, none⟩ = some (.string nonce) := HV1.out.blk.cell (i := 8) rfl
  go_upto_region 4 with (first
    | ((with_reducible refine wpList_build_eq 39 ?parts (({ MsgD.zero with nonce := nonce } : MsgD).cells (.slice none 0 0) (.slice none 0 0)) ?hg ?ho ?hf ?_); (case hg => rfl); (case ho => rfl); (case hf => exact builtNon _))
    | ((with_reducible refine wpList_alloc_new 39 mzero zeroMsgB (some 4) ?hgd ?ho ?hd ?_); (case hgd => rfl); (case ho => rfl); (case hd => rfl); (intro b3 w3 l3 B3 e3 z3))
    | ((with_reducible refine wpList_store_new 39 (.tmp 4) (.tmp 14) b3 mzero (({ MsgD.zero with nonce := nonce } : MsgD).cells (.slice none 0 0) (.slice none 0 0)) 39 B3 rfl sizeMsg (mcells_one nil_shape nil_shape) ?hgd ?ho ?hx ?hy ?_); (case hgd => rfl); (case ho => rfl); (case hx => rfl); (case hy => rfl); (intro w4 B4 o4))
    | fail)
  have hb4 : Below w1.heap.size w1 w4 := o4.below (e3.mono l3) l3
  have HV4 := Lib.hid (HV1.out.below hb4)
  have HX4 := Lib.hid (HX1.out.below hb4 HX1.out.lt)
  have HY4 := Lib.hid B4
  have H14 := Lib.hid hb4
  have f13 : w1.heap.size ≤ b3 := l3
  have h13 : b1 ≠ b3 := by have := HX1.out.lt; omega
  have f3 : w.heap.size ≤ b3 := by have := HB1.out.size; omega
  have HB4 := Lib.hid (HB1.out.trans (hb4.mono HB1.out.size))
  clear B3 B4 o4 e3 l3 z3 hb4 v6 v8
  have v6 : w4.cell? ⟨vb, 6, none⟩ = some (.int .i64 2) := HV4.out.blk.cell (i := 6) rfl
  have v10 : w4.cell? ⟨vb, 10, none⟩ = some (.int .i64 3) := HV4.out.blk.cell (i := 10) rfl
  have y0 := HY4.out.cell (i := 0) rfl
  have y1 := HY4.out.cell (i := 1) rfl
  have z0 := HY4.out.free 0
  have z1 := HY4.out.free 1
  obtain ⟨W, hW⟩ : ∃ W, W = (w4.setCell ⟨b3, 0, none⟩ (.int .i64 3)).setCell ⟨b3, 1, none⟩ (.int .i64 3) := ⟨_, rfl⟩
  have HWY : Hid (Blk W b3 ((msg28 3 nonce ⟨#[]⟩).cells (.slice none 0 0) (.slice none 0 0)) 39) := Lib.hid (by rw [hW]; exact (HY4.out.set 0 (.int .i64 3)).set 1 (.int .i64 3))
  have oW : Only b3 w4 W := by rw [hW]; exact ((Only.refl b3 w4).setCell 0 _).setCell 1 _
  have HWX := Lib.hid (oW.blk HX4.out h13)
  have HVW := Lib.hid (HV1.out.below (oW.below H14.out f13))
  have HBW := Lib.hid (oW.below HB4.out f3)
  have HWE := Lib.hid hW
  clear oW hW
  go_upto_region 9 with fail
  go_cut [] from 26 to 32 (fun wx => wx = W.drew)
  case first =>
    go_region_with (fail)
    all_goals
      go_wp2_with fail
      go_meet
      rw [HWE.out]
  case rest =>
  clear v6 v10 y0 y1 z0 z1
  subst hcut
  go_wp2_with (first
    | ((with_reducible refine wpList_load_met 39 (.tmp 4) b3 0 ((msg28 3 nonce ⟨#[]⟩).cells (.slice none 0 0) (.slice none 0 0)) _ (some 34) (HWY.out.drew).range Tryz.underlying39 rfl sizeMsg ?hg ?ho ?hds ?hx ?_); (case ho => rfl); (case hg => rfl); (case hds => rfl); (case hx => rfl))
    | fail)
  refine (vtag_walk vb _ nonce _ HVW.out.drew).mono ?_
  rintro e w6 ⟨⟨t, rfl⟩, hb6⟩
  have HY6 := Lib.hid (HWY.out.drew.below hb6 HWY.out.drew.lt)
  have HX6 := Lib.hid (HWX.out.drew.below hb6 HWX.out.drew.lt)
  have HB6 := Lib.hid (HBW.out.drew.trans (hb6.mono HBW.out.drew.size))
  clear hb6
  go_wp2_with (first
    | ((with_reducible refine wpList_store_at 9 (.tmp 36) (.tmp 35) b3 4 (.string t) _ _ HY6.out (Nat.le_of_ble_eq_true rfl) (by kernel_rfl) rfl ?hgd ?ho ?hx ?hy ?_); (case hgd => rfl); (case ho => rfl); (case hx => rfl); (case hy => rfl); (intro w7 B7 o7); have HX7 := o7.blk HX6.out h13; replace B7 : Blk w7 b3 ((msg28 3 nonce t).cells (.slice none 0 0) (.slice none 0 0)) 39 := B7)
    | ((with_reducible refine wpList_load_met 39 (.tmp 4) b3 0 ((msg28 3 nonce t).cells (.slice none 0 0) (.slice none 0 0)) _ (some 64) (B7).range Tryz.underlying39 rfl sizeMsg ?hg ?ho ?hds ?hx ?_); (case ho => rfl); (case hg => rfl); (case hds => rfl); (case hx => rfl))
    | ((with_reducible refine wpList_store_new 39 (.tmp 2) (.tmp 64) b1 mzero ((msg28 3 nonce t).cells (.slice none 0 0) (.slice none 0 0)) 39 HX7 rfl sizeMsg (mcells_one nil_shape nil_shape) ?hgd ?ho ?hx ?hy ?_); (case hgd => rfl); (case ho => rfl); (case hx => rfl); (case hy => rfl); (intro w9 B9 o9))
    | fail)
  (try simp only [Exit.inBlock, Exit.then])
  refine bodyPost_ret (results_cmv rfl _ _ B9.range rfl Tryz.underlying39 rfl sizeMsg) rfl ⟨⟨t, rfl⟩, o9.below (o7.below HB6.out f3) f1⟩
end Go.Proofs.YtidekfbgjghcjaaGreat
namespace Go.Proofs.YtidekfbgjghcjaaGreat
set_option linter.unusedSimpArgs false
set_option linter.unusedVariables false
open Go Go.RowKit
set_option linter.unusedVariables false

theorem hmake28 : ∀ (fn : Fn) (first cap : Array Value) (w : World), (Instr.makeFunc fn first cap).run Tryz.prog w = .ok (.func fn first cap) w := fun _ _ _ _ => rfl
set_option maxRecDepth 100000 in
set_option maxHeartbeats 1000000 in
theorem vstep_walk (vb cb m1 m2 : Nat) (nn ep : Int) (nonce : ByteArray) (asks : Value) (w : World) (h : VerAt w vb { cb := cb, m1 := m1, m2 := m2, nonces := nn, state := 1, nonce := nonce, asks := asks, epoch := ep }) :
    Calls Tryz.prog 90 #[.pointer (some ⟨vb, 0, none⟩), (msg28 2 nonce ⟨#[]⟩).v (.slice none 0 0) (.slice none 0 0)] w fun e w' => e = .returned (.func (.func 144) #[.pointer (some ⟨vb, 0, none⟩)] #[]) ∧ Below w.heap.size w w' := by
  have HH := Lib.hid h
  clear h
  have hmk := hmake28
  go_enter Tryz.func90, Tryz.ntmps90
  go_wp2_with (first
    | ((with_reducible refine wpList_box_new 39 (.tmp 1) ((msg28 2 nonce ⟨#[]⟩).cells (.slice none 0 0) (.slice none 0 0)) (some 3) ?hgd ?ho ?hd ?hx ?_); (case hgd => rfl); (case ho => rfl); (case hd => rfl); (case hx => rfl); (intro b0 w0 l0 B0 e0 z0))
    | fail)
  have HB0 := Lib.hid (show Below w.heap.size w w0 from e0.mono l0)
  have HX0 := Lib.hid B0
  have HV0 := Lib.hid (HH.out.below HB0.out)
  have f0 : w.heap.size ≤ b0 := l0
  clear B0 e0 l0 z0
  have hS0 : (fun w' => w'.cell? ⟨b0, 0, none⟩ = some (.int .i64 2) ∧ w'.cell? ⟨vb, 6, none⟩ = some (.int .i64 1)) w0.drew := ⟨HX0.out.drew.cell (i := 0) rfl, HV0.out.blk.drew.cell (i := 6) rfl⟩
  refine wp_region_held_drew (S := fun w' => w'.cell? ⟨b0, 0, none⟩ = some (.int .i64 2) ∧ w'.cell? ⟨vb, 6, none⟩ = some (.int .i64 1)) (by kernel_rfl) (hS0) (fun hHeld => ?_)
  clear hS0
  refine wpAnyH_take (i := 0) (v := ?_) rfl (by kernel_rfl) (by kernel_rfl) (by kernel_rfl) (fun _ _ _ h => h) (Or.inl ⟨by rfl, ?_⟩) (by assumption) ?_
  rotate_left
  · intro w hSw; (try dsimp only at hSw); go_simp; first | done | with_reducible rfl
  (try simp only [Act.put, Array.getInternal_eq_getElem, List.getElem_toArray, List.getElem_cons_succ, List.getElem_cons_zero, List.setIfInBounds_toArray, List.set_cons_zero, List.set_cons_succ])
  refine wpAnyH_take (i := 1) (v := ?_) rfl (by kernel_rfl) (by kernel_rfl) (by kernel_rfl) (fun _ _ _ h => h) (Or.inl ⟨by rfl, ?_⟩) (by assumption) ?_
  rotate_left
  · intro w hSw; (try dsimp only at hSw); go_simp; first | done | with_reducible rfl
  (try simp only [Act.put, Array.getInternal_eq_getElem, List.getElem_toArray, List.getElem_cons_succ, List.getElem_cons_zero, List.setIfInBounds_toArray, List.set_cons_zero, List.set_cons_succ])
  refine wpAnyH_take (i := 2) (v := ?_) rfl (by kernel_rfl) (by kernel_rfl) (by kernel_rfl) (fun _ _ _ h => h) (Or.inl ⟨by rfl, ?_⟩) (by assumption) ?_
  rotate_left
  · intro w hSw; (try dsimp only at hSw); go_simp; first | done | with_reducible rfl
  (try simp only [Act.put, Array.getInternal_eq_getElem, List.getElem_toArray, List.getElem_cons_succ, List.getElem_cons_zero, List.setIfInBounds_toArray, List.set_cons_zero, List.set_cons_succ])
  refine wpAnyH_take (i := 3) (v := ?_) rfl (by kernel_rfl) (by kernel_rfl) (by kernel_rfl) (fun _ _ _ h => h) (Or.inl ⟨by rfl, ?_⟩) (by assumption) ?_
  rotate_left
  · intro w hSw; (try dsimp only at hSw); go_simp; first | done | with_reducible rfl
  (try simp only [Act.put, Array.getInternal_eq_getElem, List.getElem_toArray, List.getElem_cons_succ, List.getElem_cons_zero, List.setIfInBounds_toArray, List.set_cons_zero, List.set_cons_succ])
  refine wpAnyH_take (i := 4) (v := ?_) rfl (by kernel_rfl) (by kernel_rfl) (by kernel_rfl) (fun _ _ _ h => h) (Or.inl ⟨by rfl, ?_⟩) (by assumption) ?_
  rotate_left
  · intro w hSw; (try dsimp only at hSw); go_simp; first | done | with_reducible rfl
  (try simp only [Act.put, Array.getInternal_eq_getElem, List.getElem_toArray, List.getElem_cons_succ, List.getElem_cons_zero, List.setIfInBounds_toArray, List.set_cons_zero, List.set_cons_succ])
  refine wpAnyH_take (i := 5) (v := ?_) rfl (by kernel_rfl) (by kernel_rfl) (by kernel_rfl) (fun _ _ _ h => h) (Or.inl ⟨by rfl, ?_⟩) (by assumption) ?_
  rotate_left
  · intro w hSw; (try dsimp only at hSw); go_simp; first | done | with_reducible rfl
  (try simp only [Act.put, Array.getInternal_eq_getElem, List.getElem_toArray, List.getElem_cons_succ, List.getElem_cons_zero, List.setIfInBounds_toArray, List.set_cons_zero, List.set_cons_succ])
  refine wpAnyH_take (i := 6) (v := ?_) rfl (by kernel_rfl) (by kernel_rfl) (by kernel_rfl) (fun _ _ _ h => h) (Or.inl ⟨by rfl, ?_⟩) (by assumption) ?_
  rotate_left
  · intro w hSw; (try dsimp only at hSw); go_simp; first | done | with_reducible rfl
  (try simp only [Act.put, Array.getInternal_eq_getElem, List.getElem_toArray, List.getElem_cons_succ, List.getElem_cons_zero, List.setIfInBounds_toArray, List.set_cons_zero, List.set_cons_succ])
  refine wpAnyH_take (i := 7) (v := ?_) rfl (by kernel_rfl) (by kernel_rfl) (by kernel_rfl) (fun _ _ _ h => h) (Or.inl ⟨by rfl, ?_⟩) (by assumption) ?_
  rotate_left
  · intro w hSw; (try dsimp only at hSw); go_simp; first | done | with_reducible rfl
  (try simp only [Act.put, Array.getInternal_eq_getElem, List.getElem_toArray, List.getElem_cons_succ, List.getElem_cons_zero, List.setIfInBounds_toArray, List.set_cons_zero, List.set_cons_succ])
  refine wpAnyH_take (i := 8) (v := ?_) rfl (by kernel_rfl) (by kernel_rfl) (by kernel_rfl) (fun _ _ _ h => h) (Or.inl ⟨by rfl, ?_⟩) (by assumption) ?_
  rotate_left
  · intro w hSw; (try dsimp only at hSw); go_simp; first | done | with_reducible rfl
  (try simp only [Act.put, Array.getInternal_eq_getElem, List.getElem_toArray, List.getElem_cons_succ, List.getElem_cons_zero, List.setIfInBounds_toArray, List.set_cons_zero, List.set_cons_succ])
  refine wpAnyH_take (i := 9) (v := ?_) rfl (by kernel_rfl) (by kernel_rfl) (by kernel_rfl) (fun _ _ _ h => h) (Or.inl ⟨by rfl, ?_⟩) (by assumption) ?_
  rotate_left
  · intro w hSw; (try dsimp only at hSw); go_simp; first | done | with_reducible rfl
  (try simp only [Act.put, Array.getInternal_eq_getElem, List.getElem_toArray, List.getElem_cons_succ, List.getElem_cons_zero, List.setIfInBounds_toArray, List.set_cons_zero, List.set_cons_succ])
  refine wpAnyH_take (i := 10) (v := ?_) rfl (by kernel_rfl) (by kernel_rfl) (by kernel_rfl) (fun _ _ _ h => h) (Or.inl ⟨by rfl, ?_⟩) (by assumption) ?_
  rotate_left
  · intro w hSw; (try dsimp only at hSw); go_simp; first | done | with_reducible rfl
  (try simp only [Act.put, Array.getInternal_eq_getElem, List.getElem_toArray, List.getElem_cons_succ, List.getElem_cons_zero, List.setIfInBounds_toArray, List.set_cons_zero, List.set_cons_succ])
  refine wpAnyH_take (i := 11) (v := undef) rfl (by kernel_rfl) (by kernel_rfl) (by kernel_rfl) (fun _ _ _ h => h) (Or.inr ⟨by rfl, rfl⟩) (by assumption) ?_
  (try simp only [Act.put, Array.getInternal_eq_getElem, List.getElem_toArray, List.getElem_cons_succ, List.getElem_cons_zero, List.setIfInBounds_toArray, List.set_cons_zero, List.set_cons_succ])
  refine wpAnyH_take (i := 12) (v := undef) rfl (by kernel_rfl) (by kernel_rfl) (by kernel_rfl) (fun _ _ _ h => h) (Or.inr ⟨by rfl, rfl⟩) (by assumption) ?_
  (try simp only [Act.put, Array.getInternal_eq_getElem, List.getElem_toArray, List.getElem_cons_succ, List.getElem_cons_zero, List.setIfInBounds_toArray, List.set_cons_zero, List.set_cons_succ])
  refine wpAnyH_take (i := 13) (v := undef) rfl (by kernel_rfl) (by kernel_rfl) (by kernel_rfl) (fun _ _ _ h => h) (Or.inr ⟨by rfl, rfl⟩) (by assumption) ?_
  (try simp only [Act.put, Array.getInternal_eq_getElem, List.getElem_toArray, List.getElem_cons_succ, List.getElem_cons_zero, List.setIfInBounds_toArray, List.set_cons_zero, List.set_cons_succ])
  refine wpAnyH_take (i := 14) (v := undef) rfl (by kernel_rfl) (by kernel_rfl) (by kernel_rfl) (fun _ _ _ h => h) (Or.inr ⟨by rfl, rfl⟩) (by assumption) ?_
  (try simp only [Act.put, Array.getInternal_eq_getElem, List.getElem_toArray, List.getElem_cons_succ, List.getElem_cons_zero, List.setIfInBounds_toArray, List.set_cons_zero, List.set_cons_succ])
  refine wpAnyH_take (i := 15) (v := undef) rfl (by kernel_rfl) (by kernel_rfl) (by kernel_rfl) (fun _ _ _ h => h) (Or.inr ⟨by rfl, rfl⟩) (by assumption) ?_
  (try simp only [Act.put, Array.getInternal_eq_getElem, List.getElem_toArray, List.getElem_cons_succ, List.getElem_cons_zero, List.setIfInBounds_toArray, List.set_cons_zero, List.set_cons_succ])
  refine wpAnyH_take (i := 16) (v := undef) rfl (by kernel_rfl) (by kernel_rfl) (by kernel_rfl) (fun _ _ _ h => h) (Or.inr ⟨by rfl, rfl⟩) (by assumption) ?_
  (try simp only [Act.put, Array.getInternal_eq_getElem, List.getElem_toArray, List.getElem_cons_succ, List.getElem_cons_zero, List.setIfInBounds_toArray, List.set_cons_zero, List.set_cons_succ])
  refine wpAnyH_take (i := 17) (v := undef) rfl (by kernel_rfl) (by kernel_rfl) (by kernel_rfl) (fun _ _ _ h => h) (Or.inr ⟨by rfl, rfl⟩) (by assumption) ?_
  (try simp only [Act.put, Array.getInternal_eq_getElem, List.getElem_toArray, List.getElem_cons_succ, List.getElem_cons_zero, List.setIfInBounds_toArray, List.set_cons_zero, List.set_cons_succ])
  refine wpAnyH_take (i := 18) (v := undef) rfl (by kernel_rfl) (by kernel_rfl) (by kernel_rfl) (fun _ _ _ h => h) (Or.inr ⟨by rfl, rfl⟩) (by assumption) ?_
  (try simp only [Act.put, Array.getInternal_eq_getElem, List.getElem_toArray, List.getElem_cons_succ, List.getElem_cons_zero, List.setIfInBounds_toArray, List.set_cons_zero, List.set_cons_succ])
  refine wpAnyH_take (i := 19) (v := undef) rfl (by kernel_rfl) (by kernel_rfl) (by kernel_rfl) (fun _ _ _ h => h) (Or.inr ⟨by rfl, rfl⟩) (by assumption) ?_
  (try simp only [Act.put, Array.getInternal_eq_getElem, List.getElem_toArray, List.getElem_cons_succ, List.getElem_cons_zero, List.setIfInBounds_toArray, List.set_cons_zero, List.set_cons_succ])
  refine wpAnyH_take (i := 20) (v := undef) rfl (by kernel_rfl) (by kernel_rfl) (by kernel_rfl) (fun _ _ _ h => h) (Or.inr ⟨by rfl, rfl⟩) (by assumption) ?_
  (try simp only [Act.put, Array.getInternal_eq_getElem, List.getElem_toArray, List.getElem_cons_succ, List.getElem_cons_zero, List.setIfInBounds_toArray, List.set_cons_zero, List.set_cons_succ])
  refine wpAnyH_take (i := 21) (v := undef) rfl (by kernel_rfl) (by kernel_rfl) (by kernel_rfl) (fun _ _ _ h => h) (Or.inr ⟨by rfl, rfl⟩) (by assumption) ?_
  (try simp only [Act.put, Array.getInternal_eq_getElem, List.getElem_toArray, List.getElem_cons_succ, List.getElem_cons_zero, List.setIfInBounds_toArray, List.set_cons_zero, List.set_cons_succ])
  refine wpAnyH_take (i := 22) (v := undef) rfl (by kernel_rfl) (by kernel_rfl) (by kernel_rfl) (fun _ _ _ h => h) (Or.inr ⟨by rfl, rfl⟩) (by assumption) ?_
  (try simp only [Act.put, Array.getInternal_eq_getElem, List.getElem_toArray, List.getElem_cons_succ, List.getElem_cons_zero, List.setIfInBounds_toArray, List.set_cons_zero, List.set_cons_succ])
  refine wpAnyH_take (i := 23) (v := undef) rfl (by kernel_rfl) (by kernel_rfl) (by kernel_rfl) (fun _ _ _ h => h) (Or.inr ⟨by rfl, rfl⟩) (by assumption) ?_
  (try simp only [Act.put, Array.getInternal_eq_getElem, List.getElem_toArray, List.getElem_cons_succ, List.getElem_cons_zero, List.setIfInBounds_toArray, List.set_cons_zero, List.set_cons_succ])
  refine wpAnyH_take (i := 24) (v := undef) rfl (by kernel_rfl) (by kernel_rfl) (by kernel_rfl) (fun _ _ _ h => h) (Or.inr ⟨by rfl, rfl⟩) (by assumption) ?_
  (try simp only [Act.put, Array.getInternal_eq_getElem, List.getElem_toArray, List.getElem_cons_succ, List.getElem_cons_zero, List.setIfInBounds_toArray, List.set_cons_zero, List.set_cons_succ])
  refine wpAnyH_take (i := 25) (v := undef) rfl (by kernel_rfl) (by kernel_rfl) (by kernel_rfl) (fun _ _ _ h => h) (Or.inr ⟨by rfl, rfl⟩) (by assumption) ?_
  (try simp only [Act.put, Array.getInternal_eq_getElem, List.getElem_toArray, List.getElem_cons_succ, List.getElem_cons_zero, List.setIfInBounds_toArray, List.set_cons_zero, List.set_cons_succ])
  refine wpAnyH_take (i := 26) (v := undef) rfl (by kernel_rfl) (by kernel_rfl) (by kernel_rfl) (fun _ _ _ h => h) (Or.inr ⟨by rfl, rfl⟩) (by assumption) ?_
  (try simp only [Act.put, Array.getInternal_eq_getElem, List.getElem_toArray, List.getElem_cons_succ, List.getElem_cons_zero, List.setIfInBounds_toArray, List.set_cons_zero, List.set_cons_succ])
  refine wpAnyH_take (i := 27) (v := ?_) rfl (by kernel_rfl) (by kernel_rfl) (by kernel_rfl) (fun _ _ _ h => h) (Or.inl ⟨by rfl, ?_⟩) (by assumption) ?_
  rotate_left
  · intro w hSw; (try dsimp only at hSw); go_simp; first | done | with_reducible rfl
  (try simp only [Act.put, Array.getInternal_eq_getElem, List.getElem_toArray, List.getElem_cons_succ, List.getElem_cons_zero, List.setIfInBounds_toArray, List.set_cons_zero, List.set_cons_succ])
  refine wpAnyH_take (i := 28) (v := ?_) rfl (by kernel_rfl) (by kernel_rfl) (by kernel_rfl) (fun _ _ _ h => h) (Or.inl ⟨by rfl, ?_⟩) (by assumption) ?_
  rotate_left
  · intro w hSw; (try dsimp only at hSw); go_simp; first | done | with_reducible rfl
  (try simp only [Act.put, Array.getInternal_eq_getElem, List.getElem_toArray, List.getElem_cons_succ, List.getElem_cons_zero, List.setIfInBounds_toArray, List.set_cons_zero, List.set_cons_succ])
  refine wpAnyH_take (i := 29) (v := ?_) rfl (by kernel_rfl) (by kernel_rfl) (by kernel_rfl) (fun _ _ _ h => h) (Or.inl ⟨by rfl, ?_⟩) (by assumption) ?_
  rotate_left
  · intro w hSw; (try dsimp only at hSw); go_simp; first | done | with_reducible rfl
  (try simp only [Act.put, Array.getInternal_eq_getElem, List.getElem_toArray, List.getElem_cons_succ, List.getElem_cons_zero, List.setIfInBounds_toArray, List.set_cons_zero, List.set_cons_succ])
  refine wpAnyH_done (by kernel_rfl) ?_ _
  go_wp2_with fail
  go_ret
  exact ⟨rfl, HB0.out.drew⟩
set_option maxRecDepth 100000 in
set_option maxHeartbeats 1000000 in
theorem vhi_walk (vb cb m1 m2 : Nat) (nn ep : Int) (nonce : ByteArray) (asks : Value) (w : World) (h : VerAt w vb { cb := cb, m1 := m1, m2 := m2, nonces := nn, state := 1, nonce := nonce, asks := asks, epoch := ep }) :
    Calls Tryz.prog 144 #[.pointer (some ⟨vb, 0, none⟩), (msg28 2 nonce ⟨#[]⟩).v (.slice none 0 0) (.slice none 0 0)] w fun e w' => (e = .returned (.int .i64 0) ∧ VerAt w' vb { cb := cb, m1 := m1, m2 := m2, nonces := nn, state := 2, nonce := nonce, asks := asks, epoch := 3 }) ∧ Kept vb w w' := by
  have HH := Lib.hid h
  clear h
  go_enter Tryz.func144, Tryz.ntmps144
  go_wp2_with (first
    | ((with_reducible refine wpList_box_new 39 (.tmp 1) ((msg28 2 nonce ⟨#[]⟩).cells (.slice none 0 0) (.slice none 0 0)) (some 3) ?hgd ?ho ?hd ?hx ?_); (case hgd => rfl); (case ho => rfl); (case hd => rfl); (case hx => rfl); (intro b0 w0 l0 B0 e0 z0))
    | fail)
  have HB0 := Lib.hid (show Below w.heap.size w w0 from e0.mono l0)
  have HX0 := Lib.hid B0
  have HV0 := Lib.hid (HH.out.below HB0.out)
  have f0 : w.heap.size ≤ b0 := l0
  clear B0 e0 l0 z0
  have hw3 : IntKind.i64.wrap 3 = 3 := by decide
  have hS0 : (fun w' => w'.cell? ⟨b0, 1, none⟩ = some (.int .i64 3) ∧ w'.cell? ⟨vb, 1, none⟩ = some (.int .i64 0)) w0.drew := ⟨HX0.out.drew.cell (i := 1) rfl, HV0.out.blk.drew.cell (i := 1) rfl⟩
  refine wp_region_held_drew (S := fun w' => w'.cell? ⟨b0, 1, none⟩ = some (.int .i64 3) ∧ w'.cell? ⟨vb, 1, none⟩ = some (.int .i64 0)) (by kernel_rfl) (hS0) (fun hHeld => ?_)
  clear hS0
  refine wpAnyH_take (i := 0) (v := ?_) rfl (by kernel_rfl) (by kernel_rfl) (by kernel_rfl) (fun _ _ _ h => h) (Or.inl ⟨by rfl, ?_⟩) (by assumption) ?_
  rotate_left
  · intro w hSw; (try dsimp only at hSw); go_simp; first | done | with_reducible rfl
  (try simp only [Act.put, Array.getInternal_eq_getElem, List.getElem_toArray, List.getElem_cons_succ, List.getElem_cons_zero, List.setIfInBounds_toArray, List.set_cons_zero, List.set_cons_succ])
  refine wpAnyH_take (i := 1) (v := ?_) rfl (by kernel_rfl) (by kernel_rfl) (by kernel_rfl) (fun _ _ _ h => h) (Or.inl ⟨by rfl, ?_⟩) (by assumption) ?_
  rotate_left
  · intro w hSw; (try dsimp only at hSw); go_simp; first | done | with_reducible rfl
  (try simp only [Act.put, Array.getInternal_eq_getElem, List.getElem_toArray, List.getElem_cons_succ, List.getElem_cons_zero, List.setIfInBounds_toArray, List.set_cons_zero, List.set_cons_succ])
  refine wpAnyH_take (i := 2) (v := ?_) rfl (by kernel_rfl) (by kernel_rfl) (by kernel_rfl) (fun _ _ _ h => h) (Or.inl ⟨by rfl, ?_⟩) (by assumption) ?_
  rotate_left
  · intro w hSw; (try dsimp only at hSw); go_simp; first | done | with_reducible rfl
  (try simp only [Act.put, Array.getInternal_eq_getElem, List.getElem_toArray, List.getElem_cons_succ, List.getElem_cons_zero, List.setIfInBounds_toArray, List.set_cons_zero, List.set_cons_succ])
  refine wpAnyH_take (i := 3) (v := ?_) rfl (by kernel_rfl) (by kernel_rfl) (by kernel_rfl) (fun _ _ _ h => h) (Or.inl ⟨by rfl, ?_⟩) (by assumption) ?_
  rotate_left
  · intro w hSw; (try dsimp only at hSw); go_simp; first | done | with_reducible rfl
  (try simp only [Act.put, Array.getInternal_eq_getElem, List.getElem_toArray, List.getElem_cons_succ, List.getElem_cons_zero, List.setIfInBounds_toArray, List.set_cons_zero, List.set_cons_succ])
  refine wpAnyH_take (i := 4) (v := ?_) rfl (by kernel_rfl) (by kernel_rfl) (by kernel_rfl) (fun _ _ _ h => h) (Or.inl ⟨by rfl, ?_⟩) (by assumption) ?_
  rotate_left
  · intro w hSw; (try dsimp only at hSw); go_simp; first | done | with_reducible rfl
  (try simp only [Act.put, Array.getInternal_eq_getElem, List.getElem_toArray, List.getElem_cons_succ, List.getElem_cons_zero, List.setIfInBounds_toArray, List.set_cons_zero, List.set_cons_succ])
  refine wpAnyH_take (i := 5) (v := ?_) rfl (by kernel_rfl) (by kernel_rfl) (by kernel_rfl) (fun _ _ _ h => h) (Or.inl ⟨by rfl, ?_⟩) (by assumption) ?_
  rotate_left
  · intro w hSw; (try dsimp only at hSw); go_simp; first | done | with_reducible rfl
  (try simp only [Act.put, Array.getInternal_eq_getElem, List.getElem_toArray, List.getElem_cons_succ, List.getElem_cons_zero, List.setIfInBounds_toArray, List.set_cons_zero, List.set_cons_succ])
  refine wpAnyH_take (i := 6) (v := ?_) rfl (by kernel_rfl) (by kernel_rfl) (by kernel_rfl) (fun _ _ _ h => h) (Or.inl ⟨by rfl, ?_⟩) (by assumption) ?_
  rotate_left
  · intro w hSw; (try dsimp only at hSw); go_simp; first | done | with_reducible rfl
  (try simp only [Act.put, Array.getInternal_eq_getElem, List.getElem_toArray, List.getElem_cons_succ, List.getElem_cons_zero, List.setIfInBounds_toArray, List.set_cons_zero, List.set_cons_succ])
  refine wpAnyH_take (i := 7) (v := ?_) rfl (by kernel_rfl) (by kernel_rfl) (by kernel_rfl) (fun _ _ _ h => h) (Or.inl ⟨by rfl, ?_⟩) (by assumption) ?_
  rotate_left
  · intro w hSw; (try dsimp only at hSw); go_simp; first | done | with_reducible rfl
  (try simp only [Act.put, Array.getInternal_eq_getElem, List.getElem_toArray, List.getElem_cons_succ, List.getElem_cons_zero, List.setIfInBounds_toArray, List.set_cons_zero, List.set_cons_succ])
  refine wpAnyH_ready (rs := [8]) (by kernel_rfl) (by simp) ?_
  refine AllReadyH.cons rfl (fun K hK => ?_) AllReadyH.nil
  go_simp
  refine (vCount_zero vb _ _ HV0.out.drew).mono ?_
  rintro e w1 ⟨rfl, hb1⟩
  have HX1 := Lib.hid (HX0.out.drew.below hb1 HX0.out.drew.lt)
  have HV1 := Lib.hid (HV0.out.drew.below hb1)
  have HB1 := Lib.hid (HB0.out.drew.trans (hb1.mono HB0.out.drew.size))
  clear hb1
  (try go_wp2_with fail)
  refine hK.out _ _ (⟨HX1.out.cell (i := 1) rfl, HV1.out.blk.cell (i := 1) rfl⟩) (fun hHeld2 => ?_)
  clear hK K hHeld
  have hHeld := hHeld2
  clear hHeld2
  (try simp only [Act.put, Array.getInternal_eq_getElem, List.getElem_toArray, List.getElem_cons_succ, List.getElem_cons_zero, List.setIfInBounds_toArray, List.set_cons_zero, List.set_cons_succ])
  refine wpAnyH_take (i := 9) (v := ?_) rfl (by kernel_rfl) (by kernel_rfl) (by kernel_rfl) (fun _ _ _ h => h) (Or.inl ⟨by rfl, ?_⟩) (by assumption) ?_
  rotate_left
  · intro w hSw; (try dsimp only at hSw); go_simp; first | done | with_reducible rfl
  (try simp only [Act.put, Array.getInternal_eq_getElem, List.getElem_toArray, List.getElem_cons_succ, List.getElem_cons_zero, List.setIfInBounds_toArray, List.set_cons_zero, List.set_cons_succ])
  refine wpAnyH_take (i := 10) (v := ?_) rfl (by kernel_rfl) (by kernel_rfl) (by kernel_rfl) (fun _ _ _ h => h) (Or.inl ⟨by rfl, ?_⟩) (by assumption) ?_
  rotate_left
  · intro w hSw; (try dsimp only at hSw); go_simp; first | done | with_reducible rfl
  (try simp only [Act.put, Array.getInternal_eq_getElem, List.getElem_toArray, List.getElem_cons_succ, List.getElem_cons_zero, List.setIfInBounds_toArray, List.set_cons_zero, List.set_cons_succ])
  refine wpAnyH_done (by kernel_rfl) ?_ _
  go_wp2_with fail
  have hS1 : (fun w' => w'.cell? ⟨b0, 1, none⟩ = some (.int .i64 3) ∧ w'.cell? ⟨vb, 1, none⟩ = some (.int .i64 0)) w1.drew := ⟨HX1.out.drew.cell (i := 1) rfl, HV1.out.blk.drew.cell (i := 1) rfl⟩
  refine wp_region_held_drew (S := fun w' => w'.cell? ⟨b0, 1, none⟩ = some (.int .i64 3) ∧ w'.cell? ⟨vb, 1, none⟩ = some (.int .i64 0)) (by kernel_rfl) (hS1) (fun hHeld => ?_)
  clear hS1
  refine wpAnyH_take (i := 0) (v := ?_) rfl (by kernel_rfl) (by kernel_rfl) (by kernel_rfl) (fun _ _ _ h => h) (Or.inl ⟨by rfl, ?_⟩) (by assumption) ?_
  rotate_left
  · intro w hSw; (try dsimp only at hSw); go_simp; first | done | with_reducible rfl
  (try simp only [Act.put, Array.getInternal_eq_getElem, List.getElem_toArray, List.getElem_cons_succ, List.getElem_cons_zero, List.setIfInBounds_toArray, List.set_cons_zero, List.set_cons_succ])
  refine wpAnyH_take (i := 1) (v := ?_) rfl (by kernel_rfl) (by kernel_rfl) (by kernel_rfl) (fun _ _ _ h => h) (Or.inl ⟨by rfl, ?_⟩) (by assumption) ?_
  rotate_left
  · intro w hSw; (try dsimp only at hSw); go_simp; first | done | with_reducible rfl
  (try simp only [Act.put, Array.getInternal_eq_getElem, List.getElem_toArray, List.getElem_cons_succ, List.getElem_cons_zero, List.setIfInBounds_toArray, List.set_cons_zero, List.set_cons_succ])
  refine wpAnyH_take (i := 2) (v := ?_) rfl (by kernel_rfl) (by kernel_rfl) (by kernel_rfl) (fun _ _ _ h => h) (Or.inl ⟨by rfl, ?_⟩) (by assumption) ?_
  rotate_left
  · intro w hSw; (try dsimp only at hSw); go_simp; first | done | with_reducible rfl
  (try simp only [Act.put, Array.getInternal_eq_getElem, List.getElem_toArray, List.getElem_cons_succ, List.getElem_cons_zero, List.setIfInBounds_toArray, List.set_cons_zero, List.set_cons_succ])
  refine wpAnyH_take (i := 3) (v := ?_) rfl (by kernel_rfl) (by kernel_rfl) (by kernel_rfl) (fun _ _ _ h => h) (Or.inl ⟨by rfl, ?_⟩) (by assumption) ?_
  rotate_left
  · intro w hSw; (try dsimp only at hSw); go_simp; first | done | with_reducible rfl
  (try simp only [Act.put, Array.getInternal_eq_getElem, List.getElem_toArray, List.getElem_cons_succ, List.getElem_cons_zero, List.setIfInBounds_toArray, List.set_cons_zero, List.set_cons_succ])
  refine wpAnyH_take (i := 4) (v := ?_) rfl (by kernel_rfl) (by kernel_rfl) (by kernel_rfl) (fun _ _ _ h => h) (Or.inl ⟨by rfl, ?_⟩) (by assumption) ?_
  rotate_left
  · intro w hSw; (try dsimp only at hSw); go_simp; first | done | with_reducible rfl
  (try simp only [Act.put, Array.getInternal_eq_getElem, List.getElem_toArray, List.getElem_cons_succ, List.getElem_cons_zero, List.setIfInBounds_toArray, List.set_cons_zero, List.set_cons_succ])
  refine wpAnyH_take (i := 5) (v := ?_) rfl (by kernel_rfl) (by kernel_rfl) (by kernel_rfl) (fun _ _ _ h => h) (Or.inl ⟨by rfl, ?_⟩) (by assumption) ?_
  rotate_left
  · intro w hSw; (try dsimp only at hSw); go_simp; first | done | with_reducible rfl
  (try simp only [Act.put, Array.getInternal_eq_getElem, List.getElem_toArray, List.getElem_cons_succ, List.getElem_cons_zero, List.setIfInBounds_toArray, List.set_cons_zero, List.set_cons_succ])
  refine wpAnyH_take (i := 6) (v := ?_) rfl (by kernel_rfl) (by kernel_rfl) (by kernel_rfl) (fun _ _ _ h => h) (Or.inl ⟨by rfl, ?_⟩) (by assumption) ?_
  rotate_left
  · intro w hSw; (try dsimp only at hSw); go_simp; first | done | with_reducible rfl
  (try simp only [Act.put, Array.getInternal_eq_getElem, List.getElem_toArray, List.getElem_cons_succ, List.getElem_cons_zero, List.setIfInBounds_toArray, List.set_cons_zero, List.set_cons_succ])
  refine wpAnyH_take (i := 7) (v := ?_) rfl (by kernel_rfl) (by kernel_rfl) (by kernel_rfl) (fun _ _ _ h => h) (Or.inl ⟨by rfl, ?_⟩) (by assumption) ?_
  rotate_left
  · intro w hSw; (try dsimp only at hSw); go_simp; first | done | with_reducible rfl
  (try simp only [Act.put, Array.getInternal_eq_getElem, List.getElem_toArray, List.getElem_cons_succ, List.getElem_cons_zero, List.setIfInBounds_toArray, List.set_cons_zero, List.set_cons_succ])
  refine wpAnyH_take (i := 8) (v := ?_) rfl (by kernel_rfl) (by kernel_rfl) (by kernel_rfl) (fun _ _ _ h => h) (Or.inl ⟨by rfl, ?_⟩) (by assumption) ?_
  rotate_left
  · intro w hSw; (try dsimp only at hSw); go_simp; first | done | with_reducible rfl
  (try simp only [Act.put, Array.getInternal_eq_getElem, List.getElem_toArray, List.getElem_cons_succ, List.getElem_cons_zero, List.setIfInBounds_toArray, List.set_cons_zero, List.set_cons_succ])
  refine wpAnyH_done (by kernel_rfl) ?_ _
  have HXD := Lib.hid HX1.out.drew
  have HVD := Lib.hid HV1.out.drew
  have HBD := Lib.hid HB1.out.drew
  have x1 := HXD.out.cell (i := 1) rfl
  go_wp2_with (first
    | ((with_reducible refine wpList_store_at 3 (.tmp 31) (.tmp 28) vb 10 (.int .i64 3) _ _ HVD.out.blk (Nat.le_of_ble_eq_true rfl) (by kernel_rfl) rfl ?hgd ?ho ?hx ?hy ?_); (case hgd => rfl); (case ho => rfl); (case hx => rfl); (case hy => rfl); (intro w2 B2 o2))
    | ((with_reducible refine wpList_store_at 3 (.tmp 34) (.const (.int .i64 2)) vb 6 (.int .i64 2) _ _ B2 (Nat.le_of_ble_eq_true rfl) (by kernel_rfl) rfl ?hgd ?ho ?hx ?hy ?_); (case hgd => rfl); (case ho => rfl); (case hx => rfl); (case hy => rfl); (intro w3 B3 o3))
    | fail)
  go_ret
  refine ⟨⟨rfl, ?_⟩, ?_⟩
  · exact (HVD.out.only o2 (d' := { cb := cb, m1 := m1, m2 := m2, nonces := nn, state := 1, nonce := nonce, asks := asks, epoch := 3 }) rfl B2).only o3 (d' := { cb := cb, m1 := m1, m2 := m2, nonces := nn, state := 2, nonce := nonce, asks := asks, epoch := 3 }) rfl B3
  · exact (((Kept.refl vb w).below' HBD.out (Nat.le_refl _)).only o2).only o3
end Go.Proofs.YtidekfbgjghcjaaGreat
namespace Go.Proofs.YtidekfbgjghcjaaGreat
set_option linter.unusedSimpArgs false
set_option linter.unusedVariables false
open Go Go.RowKit
set_option linter.unusedVariables false

theorem msg28_ok {nonce : ByteArray} (h : nonce.size = 32) : msgOk (msg28 2 nonce ⟨#[]⟩) = true := by
  have h1 : saysOk (msg28 2 nonce ⟨#[]⟩) = true := by unfold saysOk; rfl
  have h2 : bareM (wipe (msg28 2 nonce ⟨#[]⟩)) = true := by
    have : wipe (msg28 2 nonce ⟨#[]⟩) = { MsgD.zero with kind := 2, nonce := nonce } := rfl
    rw [this]
    unfold bareM
    simp [MsgD.zero, taggedB]
  unfold msgOk
  rw [h1, h2]
  simp [msg28, taggedB, h]
theorem funcNilIn28 (d : Nat) (fn : Fn) (first cap : Array Value) (w : World) : (Op.equalIn (d + 1) 49 (.func fn first cap) .nilFunc).run Tryz.prog w = .ok false w := by
  simp [Op.equalIn, run_underlying Tryz.underlying49]
theorem funcNil28 (fn : Fn) (first cap : Array Value) (w : World) : (binOp .eql 49 (.func fn first cap) .nilFunc).run Tryz.prog w = .ok (.bool false) w := by
  simp only [binOp]
  simp [Op.equal, Op.maxDepth, funcNilIn28 9999 fn first cap w]
set_option maxRecDepth 100000 in
set_option maxHeartbeats 1000000 in
theorem vIn_hi (vb cb m1 m2 : Nat) (nn ep : Int) (nonce : ByteArray) (asks : Value) (w : World) (h : VerAt w vb { cb := cb, m1 := m1, m2 := m2, nonces := nn, state := 1, nonce := nonce, asks := asks, epoch := ep }) (hn : nonce.size = 32) :
    Calls Tryz.prog 37 #[.pointer (some ⟨vb, 0, none⟩), (msg28 2 nonce ⟨#[]⟩).v (.slice none 0 0) (.slice none 0 0)] w fun e w' => (e = .returned (.int .i64 0) ∧ VerAt w' vb { cb := cb, m1 := m1, m2 := m2, nonces := nn, state := 2, nonce := nonce, asks := asks, epoch := 3 }) ∧ Kept vb w w' := by
  have HH := Lib.hid h
  have HN := Lib.hid hn
  clear h hn
  have hfn := funcNil28
  go_enter Tryz.func37, Tryz.ntmps37
  go_wp2_with (first
    | ((with_reducible refine wpList_box_new 39 (.tmp 1) ((msg28 2 nonce ⟨#[]⟩).cells (.slice none 0 0) (.slice none 0 0)) (some 3) ?hgd ?ho ?hd ?hx ?_); (case hgd => rfl); (case ho => rfl); (case hd => rfl); (case hx => rfl); (intro b0 w0 l0 B0 e0 z0))
    | fail)
  have HB0 := Lib.hid (show Below w.heap.size w w0 from e0.mono l0)
  have HX0 := Lib.hid B0
  have HV0 := Lib.hid (HH.out.below HB0.out)
  have f0 : w.heap.size ≤ b0 := l0
  clear B0 e0 l0 z0
  refine (vthere_yes vb _ _ HV0.out).mono ?_
  rintro e w2 ⟨rfl, hw2⟩
  subst hw2
  go_wp2_with (first
    | ((with_reducible refine wpList_load_met 39 (.tmp 3) b0 0 ((msg28 2 nonce ⟨#[]⟩).cells (.slice none 0 0) (.slice none 0 0)) _ (some 11) (HX0.out).range Tryz.underlying39 rfl sizeMsg ?hg ?ho ?hds ?hx ?_); (case ho => rfl); (case hg => rfl); (case hds => rfl); (case hx => rfl))
    | fail)
  refine (check27_walk (msg28 2 nonce ⟨#[]⟩) _ _ _ (PathIn.nil _ _) (PathIn.nil _ _) (msg28_tame 2 nonce ⟨#[]⟩)).mono ?_
  rintro e w1 ⟨he, hb1⟩
  rw [chkM_yes (msg28_ok HN.out)] at he
  subst he
  have HX1 := Lib.hid (HX0.out.below hb1 HX0.out.lt)
  have HV1 := Lib.hid (HV0.out.below hb1)
  have HB1 := Lib.hid (HB0.out.trans (hb1.mono HB0.out.size))
  clear hb1
  have x0 := HX1.out.cell (i := 0) rfl
  have eqs : (nonce.toList == nonce.toList) = true := by simp
  go_wp2_with fail
  have hS0 : (fun w' => w'.cell? ⟨b0, 3, none⟩ = some (.string nonce) ∧ w'.cell? ⟨vb, 8, none⟩ = some (.string nonce)) w1.drew := ⟨HX1.out.drew.cell (i := 3) rfl, HV1.out.blk.drew.cell (i := 8) rfl⟩
  refine wp_region_held_drew (S := fun w' => w'.cell? ⟨b0, 3, none⟩ = some (.string nonce) ∧ w'.cell? ⟨vb, 8, none⟩ = some (.string nonce)) (by kernel_rfl) (hS0) (fun hHeld => ?_)
  clear hS0
  refine wpAnyH_take (i := 0) (v := ?_) rfl (by kernel_rfl) (by kernel_rfl) (by kernel_rfl) (fun _ _ _ h => h) (Or.inl ⟨by rfl, ?_⟩) (by assumption) ?_
  rotate_left
  · intro w hSw; (try dsimp only at hSw); go_simp; first | done | with_reducible rfl
  (try simp only [Act.put, Array.getInternal_eq_getElem, List.getElem_toArray, List.getElem_cons_succ, List.getElem_cons_zero, List.setIfInBounds_toArray, List.set_cons_zero, List.set_cons_succ])
  refine wpAnyH_take (i := 1) (v := ?_) rfl (by kernel_rfl) (by kernel_rfl) (by kernel_rfl) (fun _ _ _ h => h) (Or.inl ⟨by rfl, ?_⟩) (by assumption) ?_
  rotate_left
  · intro w hSw; (try dsimp only at hSw); go_simp; first | done | with_reducible rfl
  (try simp only [Act.put, Array.getInternal_eq_getElem, List.getElem_toArray, List.getElem_cons_succ, List.getElem_cons_zero, List.setIfInBounds_toArray, List.set_cons_zero, List.set_cons_succ])
  refine wpAnyH_take (i := 2) (v := ?_) rfl (by kernel_rfl) (by kernel_rfl) (by kernel_rfl) (fun _ _ _ h => h) (Or.inl ⟨by rfl, ?_⟩) (by assumption) ?_
  rotate_left
  · intro w hSw; (try dsimp only at hSw); go_simp; first | done | with_reducible rfl
  (try simp only [Act.put, Array.getInternal_eq_getElem, List.getElem_toArray, List.getElem_cons_succ, List.getElem_cons_zero, List.setIfInBounds_toArray, List.set_cons_zero, List.set_cons_succ])
  refine wpAnyH_take (i := 3) (v := ?_) rfl (by kernel_rfl) (by kernel_rfl) (by kernel_rfl) (fun _ _ _ h => h) (Or.inl ⟨by rfl, ?_⟩) (by assumption) ?_
  rotate_left
  · intro w hSw; (try dsimp only at hSw); go_simp; first | done | with_reducible rfl
  (try simp only [Act.put, Array.getInternal_eq_getElem, List.getElem_toArray, List.getElem_cons_succ, List.getElem_cons_zero, List.setIfInBounds_toArray, List.set_cons_zero, List.set_cons_succ])
  refine wpAnyH_take (i := 4) (v := ?_) rfl (by kernel_rfl) (by kernel_rfl) (by kernel_rfl) (fun _ _ _ h => h) (Or.inl ⟨by rfl, ?_⟩) (by assumption) ?_
  rotate_left
  · intro w hSw; (try dsimp only at hSw); go_simp; first | done | with_reducible rfl
  (try simp only [Act.put, Array.getInternal_eq_getElem, List.getElem_toArray, List.getElem_cons_succ, List.getElem_cons_zero, List.setIfInBounds_toArray, List.set_cons_zero, List.set_cons_succ])
  refine wpAnyH_take (i := 5) (v := ?_) rfl (by kernel_rfl) (by kernel_rfl) (by kernel_rfl) (fun _ _ _ h => h) (Or.inl ⟨by rfl, ?_⟩) (by assumption) ?_
  rotate_left
  · intro w hSw; (try dsimp only at hSw); go_simp; first | done | with_reducible rfl
  (try simp only [Act.put, Array.getInternal_eq_getElem, List.getElem_toArray, List.getElem_cons_succ, List.getElem_cons_zero, List.setIfInBounds_toArray, List.set_cons_zero, List.set_cons_succ])
  refine wpAnyH_take (i := 6) (v := ?_) rfl (by kernel_rfl) (by kernel_rfl) (by kernel_rfl) (fun _ _ _ h => h) (Or.inl ⟨by rfl, ?_⟩) (by assumption) ?_
  rotate_left
  · intro w hSw; (try dsimp only at hSw); go_simp; first | done | with_reducible rfl
  (try simp only [Act.put, Array.getInternal_eq_getElem, List.getElem_toArray, List.getElem_cons_succ, List.getElem_cons_zero, List.setIfInBounds_toArray, List.set_cons_zero, List.set_cons_succ])
  refine wpAnyH_take (i := 7) (v := ?_) rfl (by kernel_rfl) (by kernel_rfl) (by kernel_rfl) (fun _ _ _ h => h) (Or.inl ⟨by rfl, ?_⟩) (by assumption) ?_
  rotate_left
  · intro w hSw; (try dsimp only at hSw); go_simp; first | done | with_reducible rfl
  (try simp only [Act.put, Array.getInternal_eq_getElem, List.getElem_toArray, List.getElem_cons_succ, List.getElem_cons_zero, List.setIfInBounds_toArray, List.set_cons_zero, List.set_cons_succ])
  refine wpAnyH_take (i := 8) (v := ?_) rfl (by kernel_rfl) (by kernel_rfl) (by kernel_rfl) (fun _ _ _ h => h) (Or.inl ⟨by rfl, ?_⟩) (by assumption) ?_
  rotate_left
  · intro w hSw; (try dsimp only at hSw); go_simp; first | done | with_reducible rfl
  (try simp only [Act.put, Array.getInternal_eq_getElem, List.getElem_toArray, List.getElem_cons_succ, List.getElem_cons_zero, List.setIfInBounds_toArray, List.set_cons_zero, List.set_cons_succ])
  refine wpAnyH_done (by kernel_rfl) ?_ _
  clear x0
  have HX2 := Lib.hid HX1.out.drew
  have HV2 := Lib.hid HV1.out.drew
  have HB2 := Lib.hid HB1.out.drew
  go_wp2_with (first
    | ((with_reducible refine wpList_load_met 39 (.tmp 3) b0 0 ((msg28 2 nonce ⟨#[]⟩).cells (.slice none 0 0) (.slice none 0 0)) _ (some 32) (HX2.out).range Tryz.underlying39 rfl sizeMsg ?hg ?ho ?hds ?hx ?_); (case ho => rfl); (case hg => rfl); (case hds => rfl); (case hx => rfl))
    | fail)
  refine (vstep_walk vb cb m1 m2 nn ep nonce asks _ HV2.out).mono ?_
  rintro e w3 ⟨rfl, hb3⟩
  have HX3 := Lib.hid (HX2.out.below hb3 HX2.out.lt)
  have HV3 := Lib.hid (HV2.out.below hb3)
  have HB3 := Lib.hid (HB2.out.trans (hb3.mono HB2.out.size))
  clear hb3
  go_wp2_with (first
    | ((with_reducible refine wpList_load_met 39 (.tmp 3) b0 0 ((msg28 2 nonce ⟨#[]⟩).cells (.slice none 0 0) (.slice none 0 0)) _ (some 37) (HX3.out).range Tryz.underlying39 rfl sizeMsg ?hg ?ho ?hds ?hx ?_); (case ho => rfl); (case hg => rfl); (case hds => rfl); (case hx => rfl))
    | fail)
  refine (vhi_walk vb cb m1 m2 nn ep nonce asks _ HV3.out).mono ?_
  rintro e w4 ⟨⟨rfl, hv4⟩, hb4⟩
  have HV4 := Lib.hid hv4
  have HB4 := Lib.hid hb4
  clear hv4 hb4
  go_wp2_with fail
  go_ret
  exact ⟨⟨rfl, HV4.out⟩, ((Kept.refl vb w).below' HB3.out (Nat.le_refl _)).trans HB4.out⟩
end Go.Proofs.YtidekfbgjghcjaaGreat
namespace Go.Proofs.YtidekfbgjghcjaaGreat
set_option linter.unusedSimpArgs false
set_option linter.unusedVariables false
open Go Go.RowKit
set_option linter.unusedVariables false

theorem builtMsg28 (s : ByteArray) : Tryz.prog.built 39 [(0, .int .i64 2), (3, .string s), (1, .int .i64 3)] = some ((msg28 2 s ⟨#[]⟩).cells (.slice none 0 0) (.slice none 0 0)).toArray := by kernel_rfl
set_option maxRecDepth 100000 in
set_option maxHeartbeats 1000000 in
theorem alive28 (w : World) :
    Calls Tryz.prog 30 #[] w fun e w' => e = .returned (.bool true) ∧ Below w.heap.size w w' := by
  go_enter Tryz.func30, Tryz.ntmps30
  go_wp2_with fail
  refine (vNew_walk _).mono ?_
  rintro e w1 ⟨⟨vb, cb, m1, m2, rfl, hv, hvb, hm2⟩, hb1⟩
  have HV1 := Lib.hid hv
  have HB1 := Lib.hid hb1
  clear hv hb1 hm2
  go_wp2_with fail
  obtain ⟨w2, hw2⟩ : ∃ w2, w2 = w1.alloc (Obj.cells #[Value.int IntKind.i64 0, Value.int IntKind.i64 0] 23) := ⟨_, rfl⟩
  have B2 : Blk w2 w1.heap.size [.int .i64 0, .int .i64 0] 23 := by rw [hw2]; exact Blk.new w1 _ _
  have hb2 : Below w1.heap.size w1 w2 := by rw [hw2]; exact (Below.refl _ _).alloc (Nat.le_refl _) _
  rw [← hw2]
  clear hw2
  have HV2 := Lib.hid (HV1.out.below hb2)
  have HB2 := Lib.hid (HB1.out.trans (hb2.mono HB1.out.size))
  refine (vStart_walk vb w1.heap.size 1 _ w _ HV2.out rfl B2 HB2.out hvb).mono ?_
  rintro e w3 ⟨⟨rfl, nonce, pa, na, ca, hq, hv3⟩, hb3⟩
  have HV3 := Lib.hid hv3
  have HB3 := Lib.hid hb3
  have HQ := Lib.hid hq
  clear hv3 hb3 hq B2 hb2
  go_wp2_with fail
  refine (vOut_hello vb cb m1 m2 1 0 nonce (.slice pa na ca) _ HV3.out).mono ?_
  rintro e w4 ⟨rfl, hb4⟩
  have HV4 := Lib.hid (HV3.out.below hb4)
  have HB4 := Lib.hid (HB3.out.trans (hb4.mono HB3.out.size))
  clear hb4
  go_upto_region 5 with (first
    | ((with_reducible refine wpList_alloc_new 39 mzero zeroMsgB (some 3) ?hgd ?ho ?hd ?_); (case hgd => rfl); (case ho => rfl); (case hd => rfl); (intro b5 w5 l5 B5 e5 z5))
    | ((with_reducible refine wpList_store_new 39 (.tmp 3) (.tmp 24) b5 mzero (({ MsgD.zero with kind := 1, nonce := nonce } : MsgD).cells (.slice none 0 0) (.slice none 0 0)) 39 B5 rfl sizeMsg (mcells_one nil_shape nil_shape) ?hgd ?ho ?hx ?hy ?_); (case hgd => rfl); (case ho => rfl); (case hx => rfl); (case hy => rfl); (intro w6 B6 o6))
    | fail)
  have hb6 : Below w4.heap.size w4 w6 := o6.below (e5.mono l5) l5
  have HV6 := Lib.hid (HV4.out.below hb6)
  have HX6 := Lib.hid B6
  have f5 : w.heap.size ≤ b5 := Nat.le_trans HB4.out.size l5
  have h5 : b5 ≠ vb := by have := HV4.out.blk.lt; omega
  have HB6 := Lib.hid (HB4.out.trans (hb6.mono HB4.out.size))
  clear B5 B6 o6 e5 l5 z5 hb6
  have x3 := HX6.out.cell (i := 3) rfl
  go_wp2_with (first
    | ((with_reducible refine wpList_build_eq 39 ?parts ((msg28 2 nonce ⟨#[]⟩).cells (.slice none 0 0) (.slice none 0 0)) ?hg ?ho ?hf ?_); (case hg => rfl); (case ho => rfl); (case hf => exact builtMsg28 _))
    | fail)
  refine (vIn_hi vb cb m1 m2 1 0 nonce (.slice pa na ca) _ HV6.out HQ.out).mono ?_
  rintro e w7 ⟨⟨rfl, hv7⟩, hk7⟩
  have HV7 := Lib.hid hv7
  have HX7 := Lib.hid (hk7.blk HX6.out h5)
  have HB7 := Lib.hid (hk7.below HB6.out hvb HB6.out.size)
  clear hv7 hk7 x3
  go_wp2_with fail
  refine (vOut_asked vb cb m1 m2 1 3 nonce (.slice pa na ca) _ HV7.out rfl).mono ?_
  rintro e w8 ⟨⟨t, rfl⟩, hb8⟩
  have HX8 := Lib.hid (HX7.out.below hb8 HX7.out.lt)
  have HB8 := Lib.hid (HB7.out.trans (hb8.mono HB7.out.size))
  clear hb8
  go_upto_region 7 with (first
    | ((with_reducible refine wpList_alloc_new 39 mzero zeroMsgB (some 6) ?hgd ?ho ?hd ?_); (case hgd => rfl); (case ho => rfl); (case hd => rfl); (intro b9 w9 l9 B9 e9 z9))
    | ((with_reducible refine wpList_store_new 39 (.tmp 6) (.tmp 34) b9 mzero ((msg28 3 nonce t).cells (.slice none 0 0) (.slice none 0 0)) 39 B9 rfl sizeMsg (mcells_one nil_shape nil_shape) ?hgd ?ho ?hx ?hy ?_); (case hgd => rfl); (case ho => rfl); (case hx => rfl); (case hy => rfl); (intro wC BC oC))
    | fail)
  have hbC : Below w8.heap.size w8 wC := oC.below (e9.mono l9) l9
  have HXC := Lib.hid (HX8.out.below hbC HX8.out.lt)
  have HYC := Lib.hid BC
  have HBC := Lib.hid (HB8.out.trans (hbC.mono HB8.out.size))
  clear B9 BC oC e9 l9 z9 hbC
  have x0 := HXC.out.cell (i := 0) rfl
  have y0 := HYC.out.cell (i := 0) rfl
  have y1 := HYC.out.cell (i := 1) rfl
  go_wp2_with fail
  go_ret
  exact ⟨rfl, HBC.out⟩
end Go.Proofs.YtidekfbgjghcjaaGreat
