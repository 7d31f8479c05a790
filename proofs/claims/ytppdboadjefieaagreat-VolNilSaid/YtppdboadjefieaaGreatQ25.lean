/- Leaves (chapter 16): whether they may be, their hashes; whether texts are hashes (chapter 15). A tree of at most one leaf (chapter 15): its levels, its root. A segment's count and root (chapters 16, 17): of at most one leaf. An index (chapter 14): an epoch's versions, where there is at most one. A volume's cells and an epoch's segment, of at most one version (chapter 26). A ring that is none (chapter 26): a record's tag, the next key. -/
import Derived.Test.YtppdboadjefieaaGreatQ24
import Derived.Test.YtppdboadjefieaaGreatQ4
import Derived.Test.YtppdboadjefieaaGreatQ10
import Derived.Test.YtppdboadjefieaaGreatQ15
import Derived.RangeFuncFrom
import Derived.RangeFuncKeeps
import Derived.Deep.QuietTactic
import Derived.BigQuiet
import Derived.RangeFuncNested
import Derived.RangeFuncBound
import Derived.RangeFuncCalls
import Derived.RangeFuncLeaves
import Derived.Shelf.Abstract
import Derived.Shelf.RegionOpen
import Derived.OwnWalkIn
import Derived.TacticsInMore
import Derived.LoopNIn
import Derived.LoopIn
import Derived.Test.YtppdboadjefieaaGreatQ23
set_option linter.unusedSimpArgs false
set_option linter.unusedVariables false
namespace Go.Proofs.YtppdboadjefieaaGreat
open Go Go.RowKit Go.Maps Go.WideMaps
set_option maxRecDepth 100000

def LeafRow (w : World) (p : Option Addr) (n : Nat) (l : List LeafH) : Prop := l.length = n ∧ (0 < n → ∃ g z, p = some ⟨g, 0, none⟩ ∧ Blk w g (flatH l ++ z) 70)
theorem LeafRow.below {w w' : World} {p : Option Addr} {n : Nat} {l : List LeafH} (h : LeafRow w p n l) (hb : Below w.heap.size w w') : LeafRow w' p n l :=
  ⟨h.1, fun hn => by obtain ⟨g, z, h1, h2⟩ := h.2 hn; exact ⟨g, z, h1, h2.below hb h2.lt⟩⟩
theorem LeafRow.own {w : World} {base n : Nat} {vo : Value} {l : List LeafH} (h : w.ownsRow base 70 2 vo n (flatH l)) (hl : l.length = n) : ∃ p c, vo = .slice p n c ∧ LeafRow w p n l := by
  obtain ⟨p, c, hv⟩ := own_shape h
  refine ⟨p, c, hv, hl, fun hn => ?_⟩
  obtain ⟨g, cap, z, he, _, _, hk⟩ := own_split h hn
  rw [hv] at he
  injection he with he
  exact ⟨g, z, he, hk⟩
def wasH (l : List LeafH) (k : Nat) : Int := if k = 0 then -1 else (l.getD (k - 1) ⟨0, ⟨#[]⟩⟩).lba
set_option maxHeartbeats 2000000 in
theorem pcheck_walk (p : Option Addr) (n c : Nat) (l : List LeafH) (w : World) (h : LeafRow w p n l) (ok : LeavesOk l) (hn : n ≤ 4096) :
    Calls Tryz.prog 230 #[.slice p n c] w fun e w' => e = .returned (.int .i64 0) ∧ Below w.heap.size w w' := by
  have HR := Lib.hid h
  have HOK := Lib.hid ok
  have HN := Lib.hid h.1
  clear h ok
  go_enter Tryz.func230, Tryz.ntmps230
  go_wp2_with fail
  go_loopw [3, 8] (fun v3 i wr => ∃ k : Nat, k ≤ n ∧ i = .int .i64 k ∧ v3 = .int .i64 (wasH l k) ∧ Hid (Below w.heap.size w wr)) (fun _ i _ => n - (intOf i).toNat)
  case atStart => exact ⟨0, Nat.zero_le _, rfl, rfl, Lib.hid (Below.refl _ _)⟩
  case round =>
    obtain ⟨k, hk, rfl, rfl, HBE⟩ := hrel
    by_cases hlt : k < n
    · have hlt' : (k : Int) < (n : Int) := by omega
      obtain ⟨g, z, hp, hG⟩ := (HR.out.below HBE.out).2 (by omega)
      subst hp
      have HG := Lib.hid hG
      obtain ⟨x, hx⟩ : ∃ x, l[k]? = some x := ⟨_, List.getElem?_eq_getElem (by have := HN.out; omega)⟩
      have HX := Lib.hid hx
      have HLO := Lib.hid (HOK.out.each k x hx)
      have hwl : wasH l k < x.lba := by
        unfold wasH
        by_cases h0 : k = 0
        · rw [if_pos h0]; have := HLO.out.l0; omega
        · rw [if_neg h0]
          obtain ⟨y, hy⟩ : ∃ y, l[k - 1]? = some y := ⟨_, List.getElem?_eq_getElem (by have := HN.out; omega)⟩
          rw [List.getD, hy]
          exact HOK.out.rise (k - 1) k y x hy hx (by omega)
      obtain ⟨wa, hwa⟩ : ∃ wa, wasH l k = wa := ⟨_, rfl⟩
      rw [hwa] at hwl
      have HWA := Lib.hid hwa
      rw [hwa]
      have hle : ¬ x.lba ≤ wa := by omega
      have HRX := Lib.hid (leaf_at HG.out HX.out)
      clear hwa hG hx hwl
      go_wp2_with (first
        | ((with_reducible refine wpList_load_met 70 (.tmp 10) g (k * 2) x.cells _ (some 11) HRX.out Tryz.underlying70 rfl sizeLeaf ?hg ?ho ?hds ?hx ?_); (case ho | hg | hds | hx => rfl))
        | ((with_reducible refine wpList_alloc_new 70 _ zeroLeaf (some 5) ?hgd ?ho ?hd ?_); (case hgd | ho | hd => rfl); (intro b5 w5 l5 B5 e5 z5))
        | ((with_reducible refine wpList_store_new 70 (.tmp 5) (.tmp 11) b5 (LeafH.cells ⟨0, ⟨#[]⟩⟩) x.cells 70 B5 rfl sizeLeaf (leaf_one _) ?hgd ?ho ?hx ?hy ?_); (case hgd | ho | hx | hy => rfl); (intro w6 B6 o6; have q0 := B6.cell (i := 0) rfl; have q1 := B6.cell (i := 1) rfl))
        | ((with_reducible refine wpList_load_met 70 (.tmp 5) b5 0 x.cells _ (some 17) B6.range Tryz.underlying70 rfl sizeLeaf ?hg ?ho ?hds ?hx ?_); (case ho | hg | hds | hx => rfl))
        | fail)
      have HB6 := Lib.hid B6
      have HBE6 := Lib.hid (show Below w.heap.size w w6 from o6.below (HBE.out.trans (e5.mono (Nat.le_trans HBE.out.size l5))) (Nat.le_trans HBE.out.size l5))
      clear B5 B6 e5 z5 o6 l5 q0 q1
      refine (psaid_walk x _ HLO.out).mono ?_
      rintro e w7 ⟨⟨r, rfl, tr⟩, hb7⟩
      have hre : (r.toList == ([] : List UInt8)) = false := by
        rw [beq_eq_false_iff_ne, tr.toList]
        intro e
        have := congrArg List.length e
        unfold saidH at this
        rw [List.length_append, beBytes_length] at this
        simp at this
      have q0 := (HB6.out.below hb7 HB6.out.lt).cell (i := 0) rfl
      have HBE7 := Lib.hid (HBE6.out.trans (hb7.mono HBE6.out.size))
      clear hb7 tr
      go_wp2_with fail
      go_roundw
      case rel => exact ⟨k + 1, by omega, by go_num, by unfold wasH; rw [if_neg (by omega), Nat.add_sub_cancel, List.getD, HX.out]; rfl, HBE7⟩
      case measure => simp [intOf]; omega
    · obtain rfl : k = n := by omega
      go_wp2_with fail
      go_ret
      exact ⟨rfl, HBE.out⟩
def hashesH (l : List LeafH) : List ByteArray := l.map fun x => ⟨(hashH x).toArray⟩
theorem infoStr16 : (Tryz.prog.info? 9).map (fun i => (i.zero, i.size, i.bytes)) = some (some (.string ⟨#[]⟩), 1, 16) := by kernel_rfl
set_option maxHeartbeats 2000000 in
theorem phashes_walk (p : Option Addr) (n c : Nat) (l : List LeafH) (w : World) (h : LeafRow w p n l) (ok : LeavesOk l) (hn : n ≤ 4096) :
    Calls Tryz.prog 232 #[.slice p n c] w fun e w' => (∃ vo, e = .returned vo ∧ w'.ownsRow w.heap.size 9 1 vo n ((hashesH l).map .string)) ∧ Below w.heap.size w w' := by
  obtain ⟨i0, hi, hz0, hz1, hz2⟩ := info_parts infoStr16
  have HR := Lib.hid h
  have HOK := Lib.hid ok
  have HN := Lib.hid h.1
  have HNB := Lib.hid hn
  clear h ok
  go_enter Tryz.func232, Tryz.ntmps232
  go_wp2_with fail
  go_loopw [3, 8] (fun vo i wr => ∃ k : Nat, k ≤ n ∧ i = .int .i64 k ∧ Hid (wr.ownsRow w.heap.size 9 1 vo k ((hashesH (l.take k)).map .string)) ∧ Hid (Below w.heap.size w wr)) (fun _ i _ => n - (intOf i).toNat)
  case atStart => exact ⟨0, Nat.zero_le _, rfl, Lib.hid (World.ownsRow_nil _ _ _ _), Lib.hid (Below.refl _ _)⟩
  case round =>
    obtain ⟨k, hk, rfl, HO, HBE⟩ := hrel
    by_cases hlt : k < n
    · have hlt' : (k : Int) < (n : Int) := by omega
      obtain ⟨g, z, hp, hG⟩ := (HR.out.below HBE.out).2 (by omega)
      subst hp
      have HG := Lib.hid hG
      obtain ⟨x, hx⟩ : ∃ x, l[k]? = some x := ⟨_, List.getElem?_eq_getElem (by have := HN.out; omega)⟩
      have HX := Lib.hid hx
      have HLO := Lib.hid (HOK.out.each k x hx)
      have HRX := Lib.hid (leaf_at HG.out HX.out)
      have HL1 := Lib.hid (show k + 1 ≤ maxLen from by have := HNB.out; unfold maxLen; omega)
      have HL2 := Lib.hid (show (k + 1) * 16 ≤ 140737488355328 from by have := HNB.out; omega)
      clear hG hx
      obtain ⟨hs, hhs⟩ : ∃ hs, (hashesH (l.take k)).map Value.string = hs := ⟨_, rfl⟩
      rw [hhs] at HO
      have HHS := Lib.hid hhs
      clear hhs
      go_wp2_with (first
        | ((with_reducible refine wpList_load_met 70 (.tmp 10) g (k * 2) x.cells _ (some 11) HRX.out Tryz.underlying70 rfl sizeLeaf ?hg ?ho ?hds ?hx ?_); (case ho | hg | hds | hx => rfl))
        | ((with_reducible refine wpList_alloc_new 70 _ zeroLeaf (some 5) ?hgd ?ho ?hd ?_); (case hgd | ho | hd => rfl); (intro b5 w5 l5 B5 e5 z5))
        | ((with_reducible refine wpList_store_new 70 (.tmp 5) (.tmp 11) b5 (LeafH.cells ⟨0, ⟨#[]⟩⟩) x.cells 70 B5 rfl sizeLeaf (leaf_one _) ?hgd ?ho ?hx ?hy ?_); (case hgd | ho | hx | hy => rfl); (intro w6 B6 o6))
        | ((with_reducible refine wpList_load_blk 70 (.tmp 5) b5 x.cells 70 _ B6 Tryz.underlying70 rfl sizeLeaf ?hgd ?ho ?hx ?_); (case hgd | ho | hx => rfl))
        | fail)
      have hb6 : Below wr.heap.size wr w6 := o6.below (e5.mono l5) l5
      have HBE6 := Lib.hid (HBE.out.trans (hb6.mono HBE.out.size))
      have HO6 := Lib.hid (own_below hb6 HO.out)
      clear B5 B6 e5 z5 o6 l5 hb6
      refine (phash_walk x _ HLO.out).mono ?_
      rintro e w7 ⟨⟨r, rfl, tr⟩, hb7⟩
      have HTR := Lib.hid tr
      have HBE7 := Lib.hid (HBE6.out.trans (hb7.mono HBE6.out.size))
      have HO7 := Lib.hid (own_below hb7 HO6.out)
      clear hb7 tr
      go_wp2_with (first
        | ((with_reducible refine wpList_slice_new 24 9 1 ?parts15 [.string r] (.string ⟨#[]⟩) 1 16 (some 15) Tryz.underlying24 infoStr16 (by omega) (by omega) ?hgd ?ho ?hd ?hf ?_); (case hgd | ho | hd => rfl); (case hf => kernel_rfl); (intro g8 w8 l8 B8 e8 z8; have HB8 := Lib.hid B8; have HBE8 := Lib.hid (HBE7.out.trans (e8.mono (Nat.le_trans HBE7.out.size l8))); have HO8 := Lib.hid (own_below (e8.mono l8) HO7.out)))
        | (at_builtin; refine wpList_append_own_wide _ rfl _ _ 24 rfl w.heap.size 9 i0 (.string ⟨#[]⟩) 1 16 Tryz.underlying24 hi hz0 hz1 hz2 rfl (by decide) _ k hs rfl HO8.out ⟨g8, 0, none⟩ 1 1 [.string r] rfl rfl (cells_add HB8.out) (by intro v hv; simp at hv; subst hv; rfl) (by have := HL1.out; exact this) (by have := HL2.out; omega) HBE8.out.size ?_; intro v' w9 own9 grow9 nil9)
        | fail)
      go_roundw
      case rel =>
        refine ⟨k + 1, by omega, by go_num, Lib.hid ?_, Lib.hid (below_own HBE8.out HO8.out grow9 (Nat.le_refl _) HBE8.out.size)⟩
        have he : (hashesH (l.take (k + 1))).map Value.string = (hashesH (l.take k)).map Value.string ++ [.string r] := by
          obtain ⟨h1, h2⟩ := List.getElem?_eq_some_iff.1 HX.out
          unfold hashesH
          rw [List.take_succ_eq_append_getElem h1, List.map_append, List.map_append, h2]
          simp only [List.map_cons, List.map_nil]
          rw [HTR.out.of]
        rw [he, HHS.out]
        exact own9
      case measure => simp [intOf]; omega
    · obtain rfl : k = n := by omega
      go_wp2_with fail
      go_ret
      refine ⟨⟨_, rfl, ?_⟩, HBE.out⟩
      have := HO.out
      rw [List.take_of_length_le (by rw [HN.out]; exact Nat.le_refl _)] at this
      exact this
theorem whole1_walk (s : ByteArray) (w : World) (h : s.size = 32) :
    Calls Tryz.prog 377 #[.string s] w fun e w' => e = .returned (.bool false) ∧ w = w' := by
  have hs : (s.size : Int) = 32 := by omega
  go_enter Tryz.func377, Tryz.ntmps377
  go_wp2_with fail
  go_ret
  first | exact ⟨rfl, rfl⟩ | exact ⟨ret_b (by simp [hs]), rfl⟩
set_option maxHeartbeats 1000000 in
theorem indexFunc_walk (p : Option Addr) (n c : Nat) (xs : List ByteArray) (w : World) (h : w.ownsRow 0 9 1 (.slice p n c) n (xs.map .string)) (hl : xs.length = n) (hs : ∀ x ∈ xs, x.size = 32) (hn : n ≤ 4096) :
    Calls Tryz.prog 200 #[.slice p n c, .func (.func 377) #[] #[]] w fun e w' => e = .returned (.int .i64 (-1)) ∧ w = w' := by
  have HR := Lib.hid h
  have HS := Lib.hid hs
  have HL := Lib.hid hl
  clear h hs hl
  go_enter Tryz.func200, Tryz.ntmps200
  go_wp2_with fail
  go_loopw [8] (fun i wr => ∃ k : Nat, k ≤ n ∧ i = .int .i64 k ∧ wr = w) (fun i _ => n - (intOf i).toNat)
  case atStart => exact ⟨0, Nat.zero_le _, rfl, rfl⟩
  case round =>
    obtain ⟨k, hk, rfl, rfl⟩ := hrel
    by_cases hlt : k < n
    · have hlt' : (k : Int) < (n : Int) := by omega
      obtain ⟨g, cap, z, he, _, _, hG⟩ := own_split HR.out (by omega)
      injection he with he1 _ he3
      subst he1
      obtain ⟨x, hx⟩ : ∃ x, xs[k]? = some x := ⟨_, List.getElem?_eq_getElem (by have := HL.out; omega)⟩
      have hc : wr.cell? ⟨g, k, none⟩ = some (.string x) := hG.cell (by rw [List.getElem?_append_left (by rw [List.length_map]; have := HL.out; omega), List.getElem?_map, hx]; rfl)
      have hx32 := HS.out x (List.mem_of_getElem? hx)
      clear hG hx he3
      go_wp2_with fail
      refine (whole1_walk x _ hx32).mono ?_
      rintro e w' ⟨rfl, rfl⟩
      go_wp2_with fail
      go_roundw
      case rel => exact ⟨k + 1, by omega, by go_num, by first | rfl | trivial⟩
      case measure => simp [intOf]; omega
    · obtain rfl : k = n := by omega
      go_wp2_with fail
      go_ret
      exact ⟨rfl, rfl⟩
theorem whole_walk (p : Option Addr) (n c : Nat) (xs : List ByteArray) (w : World) (h : w.ownsRow 0 9 1 (.slice p n c) n (xs.map .string)) (hl : xs.length = n) (hs : ∀ x ∈ xs, x.size = 32) (hn : n ≤ 4096) :
    Calls Tryz.prog 317 #[.slice p n c] w fun e w' => e = .returned (.bool true) ∧ w = w' := by
  go_enter Tryz.func317, Tryz.ntmps317
  go_wp2_with fail
  refine Calls.mono (show Calls Tryz.prog 107 #[.slice p n c, .func (.func 377) #[] #[]] _ (fun e w' => e = .returned (.bool false) ∧ w = w') from ?_) ?_
  · go_enter Tryz.func107, Tryz.ntmps107
    go_wp2_with fail
    refine (indexFunc_walk p n c xs _ h hl hs hn).mono ?_
    rintro e w' ⟨rfl, rfl⟩
    go_wp2_with fail
    go_ret
    exact ⟨rfl, rfl⟩
  rintro e w' ⟨rfl, rfl⟩
  go_wp2_with fail
  go_ret
  exact ⟨rfl, rfl⟩
end Go.Proofs.YtppdboadjefieaaGreat

namespace Go.Proofs.YtppdboadjefieaaGreat
open Go Go.RowKit
set_option maxRecDepth 100000
attribute [local go_sem] Go.Oper.semAt_some

theorem wpIn_scope_wide {P : Program} {m : Nat} {c : Code} {Q : Exit → Act → World → Prop} {a : Act} {w : World} (h : c.wpIn Fence.wide m P (Exit.noGoto Q) a w) : (Code.scope c).wpIn Fence.wide m P Q a w :=
  wpIn_wide.2 (wp_scope_straight (wpIn_wide.1 h))
theorem levels_walk (p : Option Addr) (n c : Nat) (w : World) :
    Calls Tryz.prog 318 #[.slice p n c] w fun e w' => ∃ b, e = .returned (.func (.func 378) #[] #[.pointer (some ⟨b, 0, none⟩)]) ∧ Blk w' b [.slice p n c] 24 ∧ w.heap.size ≤ b ∧ Below w.heap.size w w' := by
  have hmf : ∀ (fn : Fn) (first cap : Array Value) (w : World), (Instr.makeFunc fn first cap).run Tryz.prog w = .ok (.func fn first cap) w := fun _ _ _ _ => rfl
  go_enter Tryz.func318, Tryz.ntmps318
  go_wp2_with (first
    | ((with_reducible refine wpList_box_one 24 (.tmp 0) (.slice p n c) rfl (some 1) ?hgd ?ho ?hd ?hx ?_); (case hgd | ho | hd | hx => rfl); (intro bm w1 l1 B1 e1 z1))
    | fail)
  go_ret
  exact ⟨bm, rfl, B1, l1, e1.mono l1⟩

def encLevel (p : Option Addr) (n c : Nat) (_ : Unit) : Array Value := #[.slice p n c]
set_option maxHeartbeats 4000000 in
theorem levels1_in (m : Nat) (hm : 1 ≤ m) (b n₀ : Nat) (p : Option Addr) (n c : Nat) (hn : n ≤ 1) (r : Nat) (J Jx : List Unit → World → Prop) (W : World) (hb : Blk W b [.slice p n c] 24)
    (hJ0 : J [] W)
    (hY : ∀ pre x W1, J pre W1 → pre.length < 1 → YieldAt Fence.wide (m - 1) Tryz.prog r (encLevel p n c x) W1 fun e W' =>
      (e = .returned (.bool true) ∧ J (pre ++ [x]) W' ∧ Below n₀ W1 W') ∨ (e = .returned (.bool false) ∧ Jx (pre ++ [x]) W')) :
    CallsIn Fence.wide m Tryz.prog 378 #[.func (.yield r) #[] #[], .pointer (some ⟨b, 0, none⟩)] W fun e W' => (∃ v, e = .returned v) ∧
      ((∃ xs, (∃ x, xs = [x]) ∧ J xs W') ∨ (∃ pre, (∃ x, pre = [x]) ∧ Jx pre W')) := by
  have cb := hb.cell (i := 0) rfl
  have hn1 : ¬ ¬ (n : Int) < 2 := by omega
  obtain ⟨fn, tmps, assign, body, hy, hR⟩ := hY [] () W hJ0 (by simp)
  dsimp only [encLevel] at hy
  have HR := Lib.hid hR
  clear hR hY hJ0
  refine callsIn_of_wp Tryz.func378 rfl trivial ?_ rfl
  simp only [Tryz.ntmps378, List.size_toArray, List.length_cons, List.length_nil, Nat.reduceAdd, Nat.reduceSub, Array.replicate_succ, Array.replicate_zero, List.push_toArray, List.append_toArray, List.nil_append, List.cons_append]
  gi_wp2_with fail
  refine wpIn_scope_wide ?_
  gi_wp2_with fail
  refine wpIn_label ?_
  gi_wp2_with fail
  refine wpIn_loop_once ?_
  gi_wp2_with fail
  refine HR.out.mono ?_
  rintro e W3 (⟨rfl, hJ3, hk3⟩ | ⟨rfl, hJx3⟩)
  · gi_wp2_with fail
    rw [Exit.noGoto_normal]
    refine bodyPost_end (results_none rfl _ _ _) rfl ?_
    exact ⟨⟨_, rfl⟩, .inl ⟨_, ⟨_, rfl⟩, hJ3⟩⟩
  · gi_wp2_with fail
    rw [Exit.noGoto_normal]
    refine bodyPost_end (results_none rfl _ _ _) rfl ?_
    exact ⟨⟨_, rfl⟩, .inr ⟨_, ⟨_, rfl⟩, hJx3⟩⟩

theorem levels_stops (m : Nat) (hm : 1 ≤ m) (b n₀ : Nat) (p : Option Addr) (n c : Nat) (hn : n ≤ 1) (w : World) (hb : Blk w b [.slice p n c] 24) :
    SeqStopsK Fence.wide m Tryz.prog 378 #[.pointer (some ⟨b, 0, none⟩)] (encLevel p n c) (Below n₀) (fun xs => ∃ x, xs = [x]) (fun pre => ∃ x, pre = [x]) 1 w := by
  intro r J Jx W hW hJ hJx hY h0
  exact levels1_in m hm b n₀ p n c hn r J Jx W (hb.below hW hb.lt) h0 hY
def rootH : List ByteArray → List UInt8
  | [] => sha []
  | x :: _ => x.data.toList
def rootNow (s : ByteArray) (xs : List ByteArray) (k : Nat) : ByteArray := if k = 0 then s else xs.headD s
theorem Blk.iceless {w w' : World} {b : Nat} {c : List Value} {t : TypeId} {row : Option Nat} (h : Blk w b c t) (hg : w.grownBy w' row) (hr : ∀ r, row = some r → ∃ o : Obj, w.heap[r]? = some o ∧ o.isCells = false) : Blk w' b c t := by
  refine h.grown hg ?_
  intro e
  obtain ⟨o, h1, h2⟩ := hr b e.symm
  unfold Blk at h
  rw [h] at h1
  injection h1 with h1
  subst h1
  cases h2
theorem keeps_same (W : World) : KeepsOthers W W := KeepsOthers.of_grownBy (below_grown (Below.refl _ _)) (fun j o e => by cases e)
set_option maxHeartbeats 8000000 in
theorem mroot_walk (p : Option Addr) (n c : Nat) (xs : List ByteArray) (w : World) (h : w.ownsRow 0 9 1 (.slice p n c) n (xs.map .string)) (hl : xs.length = n) (hs : ∀ x ∈ xs, x.size = 32) (hn : n ≤ 1) :
    Calls Tryz.prog 231 #[.slice p n c] w fun e w' => (∃ s, e = .returned (.tuple #[.string s, .int .i64 0]) ∧ Txt s (rootH xs)) ∧ Below w.heap.size w w' := by
  have HO := Lib.hid h
  have HL := Lib.hid hl
  have HS := Lib.hid hs
  clear h hl hs
  refine (callsIn_wide (n := 4)).1 ?_
  refine callsIn_of_wp_marks Tryz.func231 rfl trivial ?_ rfl
  simp only [Tryz.ntmps231, List.size_toArray, List.length_cons, List.length_nil, Nat.reduceAdd, Nat.reduceSub, Array.replicate_succ, Array.replicate_zero, List.push_toArray, List.append_toArray, List.nil_append, List.cons_append]
  gi_wp2_with (first
    | (refine ⟨trivial, ?_⟩; gi_at_call 317; refine (callsIn_wide.2 (whole_walk p n c xs _ HO.out HL.out HS.out (by omega))).mono ?_; rintro e w1 ⟨rfl, rfl⟩)
    | (refine ⟨trivial, ?_⟩; gi_at_call 236; refine (callsIn_wide.2 (sum_none none 0 _)).mono ?_; rintro e w2 ⟨s0, rfl, ts0, hb2⟩; have HTS := Lib.hid ts0; have HB2 := Lib.hid hb2; clear ts0 hb2)
    | (refine ⟨trivial, ?_⟩; gi_at_call 318; refine (callsIn_wide.2 (levels_walk p n c _)).mono ?_; rintro e wA ⟨bl, rfl, BL, lL, hbA⟩; have HBL := Lib.hid BL; have HLL := Lib.hid lL; have HBA := Lib.hid hbA; clear BL lL hbA)
    | fail)
  obtain ⟨b4, hb4⟩ : ∃ b4, b4 = w2.heap.size := ⟨_, rfl⟩
  rw [← hb4]
  have hB4 : Blk (w2.alloc (Obj.cells #[.string s0] 9)) b4 [.string s0] 9 := by rw [hb4]; exact Blk.new w2 [.string s0] 9
  have HB4 := Lib.hid (hB4.below HBA.out hB4.lt)
  have hbw : Below w.heap.size w (w2.alloc (Obj.cells #[.string s0] 9)) := HB2.out.trans (((Below.refl _ _).alloc (Nat.le_refl _) _).mono HB2.out.size)
  have HWA := Lib.hid (hbw.trans (HBA.out.mono hbw.size))
  have h4w : w.heap.size ≤ b4 := by rw [hb4]; exact HB2.out.size
  clear hB4 hbw HB2 HBA hb4 HLL
  have hA : w.heap.size ≤ wA.heap.size := HWA.out.size
  refine wpIn_rangeFunc_ownF rfl (by omega) (gf := 378) (lb := #[.pointer (some ⟨bl, 0, none⟩)]) rfl trivial (enters_of Tryz.func378 (by kernel_rfl) rfl)
    (levels_stops (4 - 1) (by omega) bl w.heap.size p n c hn wA HBL.out) belowK_t (belowK_b hA) (Below.refl _ _) (fun _ => rfl)
    (fun pre W => Blk W b4 [.string (rootNow s0 xs pre.length)] 9 ∧ Below w.heap.size w W)
    (fun jc pre W => False)
    (OwnFrom.and (Own.from (fun s A B row hs hg hr => hs.iceless hg hr) _) (ownFrom_below (Nat.le_refl _) hA))
    (fun jc s W W' row h => h.elim)
    ⟨HB4.out, HWA.out⟩
    (fun x => { tmps := #[.slice p n c, undef, .string ⟨#[]⟩, .int .i64 0, .pointer (some ⟨b4, 0, none⟩), .slice p n c, .slice p n c, .bool true, .bool false, .string s0, .slice p n c, .func (.func 378) #[] #[.pointer (some ⟨bl, 0, none⟩)], .slice p n c, undef, undef, undef, undef, undef, undef, undef], defers := [] }) ?assign ?body ?done ?stop
  case assign =>
    intro r x W K hK
    dsimp only [encLevel]
    gi_wp2
    exact hK
  case body =>
    rintro r pre x W ⟨hb4, hB⟩ hlen
    obtain rfl : pre = [] := List.eq_nil_of_length_eq_zero (by omega)
    have z4 := hb4.cell (i := 0) rfl
    have f4 := hb4.free 0
    rcases Nat.lt_or_ge 0 n with hp | hp
    · obtain rfl : n = 1 := by omega
      obtain ⟨x0, rfl⟩ : ∃ x0, xs = [x0] := by
        rcases xs with _ | ⟨x0, _ | ⟨_, _⟩⟩
        · have := HL.out; simp at this
        · exact ⟨x0, rfl⟩
        · have := HL.out; simp at this
      obtain ⟨g, cap, z, he, _, _, hk⟩ := own_split HO.out (by omega)
      injection he with he _ _
      subst he
      have cg := (hk.below hB hk.lt).cell (i := 0) rfl
      gi_wp2_with fail
      refine ⟨KeepsOthers.setCell _ _ _, (Below.refl _ _).setCell (p := ⟨b4, 0, none⟩) (by show w.heap.size ≤ b4; exact h4w) _, ?_, hB.setCell (p := ⟨b4, 0, none⟩) (by show w.heap.size ≤ b4; exact h4w) _⟩
      exact hb4.set 0 (.string x0)
    · obtain rfl : n = 0 := by omega
      obtain rfl : xs = [] := List.eq_nil_of_length_eq_zero HL.out
      gi_wp2_with fail
      exact ⟨keeps_same W, Below.refl _ _, hb4, hB⟩
  case done =>
    rintro D ys W hD ⟨x, rfl⟩ ⟨hb4, hB⟩ hK
    have z4 := hb4.cell (i := 0) rfl
    gi_wp2_with fail
    refine ⟨by simp, .inl ⟨_, _, rfl, run_takeDeferred hK, ?_⟩⟩
    refine ⟨.tuple #[.string (rootNow s0 xs 1), .int .i64 0], ?_, ⟨_, rfl, ?_⟩, hB.trans (belowK_b (w := w) (Nat.le_refl _) W D _ _ (by omega) hK rfl rfl)⟩
    · simp [results, Tryz.f231, go_sem]
    · rcases xs with _ | ⟨x0, xs⟩
      · exact HTS.out
      · rfl
  case stop =>
    rintro D jc pre W hD hpre h hK
    exact h.elim
end Go.Proofs.YtppdboadjefieaaGreat

namespace Go.Proofs.YtppdboadjefieaaGreat
open Go Go.RowKit Go.Maps Go.WideMaps
set_option maxRecDepth 100000

theorem own_any {w : World} {base n size : Nat} {e : TypeId} {v : Value} {xs : List Value} (h : w.ownsRow base e size v n xs) : w.ownsRow 0 e size v n xs := by
  rcases h with ⟨h1, h2⟩
  refine ⟨h1, ?_⟩
  rcases h2 with h2 | ⟨g, cap, cur, a, b, c⟩
  · exact .inl h2
  · exact .inr ⟨g, cap, cur, a, Nat.zero_le _, c⟩
def Hashes (f : Int → Option (List UInt8)) : Prop := ∀ k x, f k = some x → x.length = 32
theorem Hashes.none : Hashes (fun _ => Option.none) := fun k x h => by cases h
theorem Hashes.put {f : Int → Option (List UInt8)} (h : Hashes f) (k : Int) (x : List UInt8) (hx : x.length = 32) : Hashes (fun j => if j = k then some x else f j) := by
  intro j y hy
  by_cases hj : j = k
  · simp only [if_pos hj] at hy; obtain rfl := Option.some.inj hy; exact hx
  · simp only [if_neg hj] at hy; exact h j y hy
theorem leavesTo_mem {f : Int → Option (List UInt8)} {k : Nat} {x : LeafH} (h : x ∈ leavesTo f k) : ∃ i : Nat, i < k ∧ ∃ y, f (i : Int) = some y ∧ x = ⟨(i : Int), ⟨y.toArray⟩⟩ := by
  unfold leavesTo at h
  obtain ⟨i, hi, h2⟩ := List.mem_filterMap.1 h
  refine ⟨i, List.mem_range.1 hi, ?_⟩
  cases hf : f (i : Int) with
  | none => rw [hf] at h2; cases h2
  | some y => rw [hf] at h2; exact ⟨y, rfl, (Option.some.inj h2).symm⟩
theorem leavesTo_rise (f : Int → Option (List UInt8)) (k : Nat) : (leavesTo f k).Pairwise fun x y => x.lba < y.lba := by
  unfold leavesTo
  rw [List.pairwise_filterMap]
  refine List.Pairwise.imp ?_ List.pairwise_lt_range
  intro i j hij x hx y hy
  cases hf : f (i : Int) with
  | none => rw [hf] at hx; cases hx
  | some u =>
    cases hg : f (j : Int) with
    | none => rw [hg] at hy; cases hy
    | some v =>
      rw [hf] at hx; rw [hg] at hy
      obtain rfl := Option.some.inj hx
      obtain rfl := Option.some.inj hy
      show (i : Int) < (j : Int)
      omega
theorem leavesTo_ok {f : Int → Option (List UInt8)} (h : Hashes f) (k : Nat) (hk : k ≤ 4096) : LeavesOk (leavesTo f k) where
  each j x hj := by
    obtain ⟨i, hi, y, hy, rfl⟩ := leavesTo_mem (List.mem_of_getElem? hj)
    exact ⟨by show (0 : Int) ≤ (i : Int); omega, by show (i : Int) ≤ 4095; omega, by show y.toArray.size = 32; simpa using h _ _ hy⟩
  rise i j x y hi hj hij := by
    obtain ⟨h1, rfl⟩ := List.getElem?_eq_some_iff.1 hi
    obtain ⟨h2, rfl⟩ := List.getElem?_eq_some_iff.1 hj
    exact List.pairwise_iff_getElem.1 (leavesTo_rise f k) i j h1 h2 hij
def rootL (l : List LeafH) : List UInt8 := rootH (hashesH l)
set_option maxHeartbeats 2000000 in
theorem proot_walk (p : Option Addr) (n c : Nat) (l : List LeafH) (w : World) (h : LeafRow w p n l) (ok : LeavesOk l) (hn : n ≤ 1) :
    Calls Tryz.prog 139 #[.slice p n c] w fun e w' => (∃ s, e = .returned (.tuple #[.string s, .int .i64 0]) ∧ Txt s (rootL l)) ∧ Below w.heap.size w w' := by
  have HR := Lib.hid h
  have HOK := Lib.hid ok
  clear h ok
  go_enter Tryz.func139, Tryz.ntmps139
  go_wp2_with fail
  refine (pcheck_walk p n c l _ HR.out HOK.out (by omega)).mono ?_
  rintro e w1 ⟨rfl, hb1⟩
  have HB1 := Lib.hid hb1
  have HR1 := Lib.hid (HR.out.below hb1)
  clear hb1
  go_wp2_with fail
  refine (phashes_walk p n c l _ HR1.out HOK.out (by omega)).mono ?_
  rintro e w2 ⟨⟨vo, rfl, ho⟩, hb2⟩
  have HB2 := Lib.hid (HB1.out.trans (hb2.mono HB1.out.size))
  obtain ⟨q, d, rfl⟩ := own_shape ho
  have HO := Lib.hid (own_any ho)
  clear hb2 ho
  go_wp2_with fail
  refine (mroot_walk q n d (hashesH l) _ HO.out (by unfold hashesH; rw [List.length_map]; exact HR.out.1) (fun x hx => ?_) hn).mono ?_
  · unfold hashesH at hx
    obtain ⟨y, _, rfl⟩ := List.mem_map.1 hx
    show (hashH y).toArray.size = 32
    simpa using hashH_length y
  rintro e w3 ⟨⟨s, rfl, ts⟩, hb3⟩
  have HTS := Lib.hid ts
  have HB3 := Lib.hid (HB2.out.trans (hb3.mono HB2.out.size))
  clear hb3 ts
  go_wp2_with fail
  go_ret2
  exact ⟨⟨s, rfl, HTS.out⟩, HB3.out⟩
set_option maxHeartbeats 1000000 in
theorem segCount_walk (ps B n : Nat) (ep : Int) (D : DataW Unit) (w : World) (h : SegAt w ps B n ep D) :
    Calls Tryz.prog 61 #[.pointer (some ⟨ps, 0, none⟩)] w fun e w' => e = .returned (.int .i64 (Maps.size D)) ∧ w = w' := by
  have HS := Lib.hid h
  clear h
  go_enter Tryz.func61, Tryz.ntmps61
  go_wp2_with fail
  refine (segThere_walk ps B n _ _ _ HS.out).mono ?_
  rintro e w1 ⟨rfl, rfl⟩
  have c1 := HS.out.blk.cell (i := 1) rfl
  go_wp2_with (first
    | (at_len; refine wpList_len_own _ rfl _ 225 rfl 3 9 Tryz.underlying225 _ B n D rfl HS.out.map ?_)
    | fail)
  go_ret
  exact ⟨rfl, rfl⟩
set_option maxHeartbeats 2000000 in
theorem segRoot_walk (ps B n : Nat) (ep : Int) (D : DataW Unit) (f : Int → Option (List UInt8)) (w : World) (h : SegAt w ps B n ep D) (hD : SegIs D f) (hf : Hashes f) (hn : (leavesTo f 4096).length ≤ 1) :
    Calls Tryz.prog 62 #[.pointer (some ⟨ps, 0, none⟩)] w fun e w' => (∃ s, e = .returned (.string s) ∧ Txt s (rootL (leavesTo f 4096))) ∧ Below w.heap.size w w' := by
  have HS := Lib.hid h
  have HD := Lib.hid hD
  have HF := Lib.hid hf
  clear h hD hf
  go_enter Tryz.func62, Tryz.ntmps62
  go_wp2_with fail
  refine (segThere_walk ps B n _ _ _ HS.out).mono ?_
  rintro e w1 ⟨rfl, rfl⟩
  go_wp2_with fail
  refine (segLeaves_walk ps B n ep D f _ HS.out HD.out).mono ?_
  rintro e w2 ⟨⟨vo, rfl, ho⟩, hb2⟩
  have HB2 := Lib.hid hb2
  obtain ⟨q, d, rfl, hlr⟩ := LeafRow.own ho rfl
  have HLR := Lib.hid hlr
  clear hb2 ho hlr
  go_wp2_with fail
  refine (proot_walk q _ d (leavesTo f 4096) _ HLR.out (leavesTo_ok HF.out 4096 (Nat.le_refl _)) hn).mono ?_
  rintro e w3 ⟨⟨s, rfl, ts⟩, hb3⟩
  have HTS := Lib.hid ts
  have HB3 := Lib.hid (HB2.out.trans (hb3.mono HB2.out.size))
  clear hb3 ts
  go_wp2_with fail
  go_ret
  exact ⟨⟨s, rfl, HTS.out⟩, HB3.out⟩
end Go.Proofs.YtppdboadjefieaaGreat

namespace Go.Proofs.YtppdboadjefieaaGreat
open Go Go.RowKit
set_option maxRecDepth 100000

def ofE (l : List VersD) (ep : Int) : List VersD := l.filter fun x => decide (x.epoch = ep)
theorem ofE_yes {l : List VersD} {ep : Int} {k : Nat} {x : VersD} (hx : l[k]? = some x) (he : x.epoch = ep) : ofE (l.take (k + 1)) ep = ofE (l.take k) ep ++ [x] := by
  obtain ⟨h1, h2⟩ := List.getElem?_eq_some_iff.1 hx
  unfold ofE
  rw [List.take_succ_eq_append_getElem h1, List.filter_append, h2]
  simp [he]
theorem ofE_no {l : List VersD} {ep : Int} {k : Nat} {x : VersD} (hx : l[k]? = some x) (he : ¬ x.epoch = ep) : ofE (l.take (k + 1)) ep = ofE (l.take k) ep := by
  obtain ⟨h1, h2⟩ := List.getElem?_eq_some_iff.1 hx
  unfold ofE
  rw [List.take_succ_eq_append_getElem h1, List.filter_append, h2]
  simp [he]
theorem ofE_take (l : List VersD) (ep : Int) (k : Nat) : (ofE (l.take k) ep).length ≤ (ofE l ep).length := by
  unfold ofE
  exact ((List.take_sublist k l).filter _).length_le
theorem ofE_first {l : List VersD} {ep : Int} {k : Nat} {x : VersD} (h : (ofE l ep).length ≤ 1) (hx : l[k]? = some x) (he : x.epoch = ep) : ofE (l.take k) ep = [] := by
  have h1 := ofE_take l ep (k + 1)
  rw [ofE_yes hx he, List.length_append] at h1
  simp only [List.length_cons, List.length_nil] at h1
  exact List.eq_nil_of_length_eq_zero (by omega)
theorem own_le {w : World} {base base' n size : Nat} {e : TypeId} {v : Value} {xs : List Value} (h : w.ownsRow base e size v n xs) (hb : base' ≤ base) : w.ownsRow base' e size v n xs := by
  rcases h with ⟨h1, h2⟩
  refine ⟨h1, ?_⟩
  rcases h2 with h2 | ⟨g, cap, cur, a, b, c⟩
  · exact .inl h2
  · exact .inr ⟨g, cap, cur, a, Nat.le_trans hb b, c⟩
theorem infoVers14 : (Tryz.prog.info? 154).map (fun i => (i.zero, i.size, i.bytes)) = some (some (.agg #[.int .i64 0, .int .i64 0, .int .i64 0]), 3, 24) := by kernel_rfl
set_option maxHeartbeats 4000000 in
theorem iepoch_walk (xb n : Nat) (xv : Value) (l : List VersD) (ep : Int) (w : World) (hX : Blk w xb [.bool true, xv] 297) (hR : w.ownsRow 0 154 3 xv n (flatV l)) (hl : l.length = n) (hn : n ≤ 4096) (h1 : (ofE l ep).length ≤ 1) :
    Calls Tryz.prog 131 #[.pointer (some ⟨xb, 0, none⟩), .int .i64 ep] w fun e w' => (∃ vo, e = .returned vo ∧ w'.ownsRow w.heap.size 154 3 vo (ofE l ep).length (flatV (ofE l ep))) ∧ Below w.heap.size w w' := by
  obtain ⟨i0, hi, hz0, hz1, hz2⟩ := info_parts infoVers14
  have HX := Lib.hid hX
  have HR := Lib.hid hR
  have HL := Lib.hid hl
  have HN := Lib.hid hn
  have H1 := Lib.hid h1
  clear hX hR hl hn h1
  go_enter Tryz.func131, Tryz.ntmps131
  go_wp2_with fail
  refine (iall_walk xb n xv l _ HX.out HR.out HN.out).mono ?_
  rintro e w1 ⟨⟨va, rfl, ha⟩, hb1⟩
  obtain ⟨pa, ca, rfl⟩ := own_shape ha
  have HA := Lib.hid ha
  have HB1 := Lib.hid hb1
  clear ha hb1
  go_wp2_with fail
  go_loopw [5, 12] (fun vo i wr => ∃ k : Nat, k ≤ n ∧ i = .int .i64 k ∧ Hid (wr.ownsRow w1.heap.size 154 3 vo (ofE (l.take k) ep).length (flatV (ofE (l.take k) ep))) ∧ Hid (Below w1.heap.size w1 wr)) (fun _ i _ => n - (intOf i).toNat)
  case atStart => exact ⟨0, Nat.zero_le _, rfl, Lib.hid (World.ownsRow_nil _ _ _ _), Lib.hid (Below.refl _ _)⟩
  case round =>
    obtain ⟨k, hk, rfl, HO, HB2⟩ := hrel
    have hn := HN.out
    by_cases hlt : k < n
    · have hlt' : (k : Int) < (n : Int) := by omega
      obtain ⟨g, cap, z, he, _, _, hG⟩ := own_split HA.out (by omega)
      injection he with he hnn hcc
      subst he hcc
      clear hnn
      have HG := Lib.hid (hG.below HB2.out hG.lt)
      obtain ⟨x, hx⟩ : ∃ x, l[k]? = some x := ⟨_, List.getElem?_eq_getElem (by have := HL.out; omega)⟩
      have HX1 := Lib.hid hx
      have HRX := Lib.hid (vers_at HG.out HX1.out)
      clear hG hx
      by_cases hxe : x.epoch = ep
      · have hv0 := ofE_first H1.out HX1.out hxe
        have ho2 := HO.out
        rw [hv0] at ho2
        simp only [List.length_nil] at ho2
        have HO2 := Lib.hid ho2
        clear ho2
        obtain ⟨po, co, rfl⟩ := own_shape HO2.out
        have HV0 := Lib.hid hv0
        clear hv0
        go_upto_region 7 with (first
          | ((with_reducible refine wpList_load_met 154 (.tmp 14) g (k * 3) x.cells _ (some 15) HRX.out Tryz.underlying154 rfl sizeVers ?hg ?ho ?hds ?hx ?_); (case ho | hg | hds | hx => rfl))
          | ((with_reducible refine wpList_alloc_new 154 _ zeroVers (some 7) ?hgd ?ho ?hd ?_); (case hgd | ho | hd => rfl); (intro b7 w5 l5 B5 e5 z5))
          | ((with_reducible refine wpList_store_new 154 (.tmp 7) (.tmp 15) b7 (VersD.cells ⟨0, 0, 0⟩) x.cells 154 B5 rfl sizeVers (vers_one _) ?hgd ?ho ?hx ?hy ?_); (case hgd | ho | hx | hy => rfl); (intro w6 B6 o6; have y0 := B6.cell (i := 0) rfl; have y1 : w6.cell? ⟨b7, 1, none⟩ = some (.int .i64 ep) := (by rw [← hxe]; exact B6.cell (i := 1) rfl)))
          | fail)
        have HB6 := Lib.hid B6
        have hb6 : Below wr.heap.size wr w6 := o6.below (e5.mono l5) l5
        have HB26 := Lib.hid (HB2.out.trans (hb6.mono HB2.out.size)).drew
        have HO6 := Lib.hid (own_below hb6.drew HO2.out)
        clear B5 e5 z5 o6 l5 hb6 y0 y1
        go_region
        have HB6d := Lib.hid HB6.out.drew
        obtain ⟨wd, hwd⟩ : ∃ wd, wd = w6.drew := ⟨_, rfl⟩
        rw [← hwd] at HB26 HO6 HB6d
        rw [← hwd]
        clear HB6 B6 hwd
        go_wp2_with (first
          | ((with_reducible refine wpList_load_blk 154 (.tmp 7) b7 x.cells 154 _ HB6d.out Tryz.underlying154 rfl sizeVers ?hgd ?ho ?hx ?_); (case hgd | ho | hx => rfl))
          | ((with_reducible refine wpList_slice_new 217 154 1 ?parts x.cells (.agg #[.int .i64 0, .int .i64 0, .int .i64 0]) 3 24 (some 42) Tryz.underlying217 infoVers14 (by omega) (by omega) ?hgd ?ho ?hd ?hf ?_); (case hgd | ho | hd => rfl); (case hf => kernel_rfl); (intro g8 w8 l8 B8 e8 z8; have HB8 := Lib.hid B8; have HB28 := Lib.hid (HB26.out.trans (e8.mono (Nat.le_trans HB26.out.size l8))); have HO8 := Lib.hid (own_below (e8.mono l8) HO6.out)))
          | (at_builtin; refine wpList_append_own_wide _ rfl _ _ 217 rfl w1.heap.size 154 i0 (.agg #[.int .i64 0, .int .i64 0, .int .i64 0]) 3 24 Tryz.underlying217 hi hz0 hz1 hz2 rfl (by decide) _ 0 (flatV []) rfl HO8.out ⟨g8, 0, none⟩ 1 1 x.cells rfl rfl (cells_add HB8.out) (vers_one _) (by unfold maxLen; omega) (by omega) HB28.out.size ?_; intro v' w9 own9 grow9 nil9)
          | fail)
        go_roundw
        case rel =>
          refine ⟨k + 1, by omega, by go_num, Lib.hid ?_, Lib.hid (below_own HB28.out HO8.out grow9 (Nat.le_refl _) HB28.out.size)⟩
          · rw [ofE_yes HX1.out hxe, HV0.out]
            show World.ownsRow _ _ _ _ _ 1 (flatV [x])
            have he : flatV [x] = flatV [] ++ x.cells := by simp [flatV]
            rw [he]
            exact own9
        case measure => simp [intOf]; omega
      · have hxe' : (x.epoch == ep) = false := beq_eq_false_iff_ne.2 hxe
        go_wp2_with (first
          | ((with_reducible refine wpList_load_met 154 (.tmp 14) g (k * 3) x.cells _ (some 15) HRX.out Tryz.underlying154 rfl sizeVers ?hg ?ho ?hds ?hx ?_); (case ho | hg | hds | hx => rfl))
          | ((with_reducible refine wpList_alloc_new 154 _ zeroVers (some 7) ?hgd ?ho ?hd ?_); (case hgd | ho | hd => rfl); (intro b7 w5 l5 B5 e5 z5))
          | ((with_reducible refine wpList_store_new 154 (.tmp 7) (.tmp 15) b7 (VersD.cells ⟨0, 0, 0⟩) x.cells 154 B5 rfl sizeVers (vers_one _) ?hgd ?ho ?hx ?hy ?_); (case hgd | ho | hx | hy => rfl); (intro w6 B6 o6; have y1 : w6.cell? ⟨b7, 1, none⟩ = some (.int .i64 x.epoch) := B6.cell (i := 1) rfl))
          | fail)
        have hb6 : Below wr.heap.size wr w6 := o6.below (e5.mono l5) l5
        go_roundw
        case rel =>
          refine ⟨k + 1, by omega, by go_num, Lib.hid ?_, Lib.hid (HB2.out.trans (hb6.mono HB2.out.size))⟩
          rw [ofE_no HX1.out hxe]
          exact own_below hb6 HO.out
        case measure => simp [intOf]; omega
    · obtain rfl : k = n := by omega
      go_wp2_with fail
      go_ret
      refine ⟨⟨_, rfl, own_le ?_ HB1.out.size⟩, HB1.out.trans (HB2.out.mono HB1.out.size)⟩
      have := HO.out
      rw [List.take_of_length_le (by rw [HL.out]; exact Nat.le_refl _)] at this
      exact this
end Go.Proofs.YtppdboadjefieaaGreat

namespace Go.Proofs.YtppdboadjefieaaGreat
open Go Go.RowKit Go.Maps Go.WideMaps
set_option maxRecDepth 100000

set_option maxHeartbeats 4000000 in
theorem vcell_walk (i : VolI) (v : VolD) (c : CellD) (w : World) (h : VolAt w i v) (ok : VolOk v) (h0 : 0 ≤ c.slot) (h1 : c.slot < v.used) (hc : CellOk c) (hg : c.gone = false) (hb : Txt (v.d.shown (4 + c.slot)) (cellL c)) :
    Calls Tryz.prog 72 #[.pointer (some ⟨i.vb, 0, none⟩), .int .i64 c.slot] w fun e w' => e = .returned (.tuple #[.agg c.cells.toArray, .int .i64 0]) ∧ Below w.heap.size w w' := by
  have HOK := Lib.hid ok
  have HS := Lib.hid (show 0 ≤ c.slot ∧ c.slot < v.used from ⟨h0, h1⟩)
  have HC := Lib.hid hc
  have HG := Lib.hid hg
  have HB := Lib.hid hb
  have H0 := Lib.hid h
  clear ok h0 h1 hc hg hb h
  have v0 : w.cell? ⟨i.vb, 0, none⟩ = some (.pointer (some ⟨i.jb, 0, none⟩)) := H0.out.vol.cell (i := 0) rfl
  go_enter Tryz.func72, Tryz.ntmps72
  go_wp2_with (first
    | ((with_reducible refine wpList_alloc_new 158 _ zeroCell (some 4) ?hgd ?ho ?hd ?_); (case hgd | ho | hd => rfl); (intro b4 w4 l4 B4 e4 z4; have v1 : w4.cell? ⟨i.vb, 0, none⟩ = some (.pointer (some ⟨i.jb, 0, none⟩)) := ((H0.out.below (e4.mono l4)).vol.cell (i := 0) rfl)))
    | fail)
  have HB4 := Lib.hid B4
  have HL4 := Lib.hid l4
  have HBE4 := Lib.hid (e4.mono l4)
  have H4 := Lib.hid (H0.out.below (e4.mono l4))
  clear B4 l4 e4 z4 v1 v0
  refine (jread_walk i v c.slot _ H4.out HOK.out HS.out.1 HS.out.2).mono ?_
  rintro e w5 ⟨rfl, hb5⟩
  have HB5 := Lib.hid (HB4.out.below hb5 HB4.out.lt)
  have HBE5 := Lib.hid (HBE4.out.trans (hb5.mono HBE4.out.size))
  clear hb5
  obtain ⟨blk, hblk⟩ : ∃ blk, v.d.shown (4 + c.slot) = blk := ⟨_, rfl⟩
  rw [hblk]
  have HT := Lib.hid (show Txt blk (cellL c) from by rw [← hblk]; exact HB.out)
  clear hblk
  go_wp2_with fail
  refine (cellTake1_walk c blk _ HT.out HC.out HG.out).mono ?_
  rintro e w6 ⟨rfl, hb6⟩
  have HB6 := Lib.hid (HB5.out.below hb6 HB5.out.lt)
  have HBE6 := Lib.hid (HBE5.out.trans (hb6.mono HBE5.out.size))
  clear hb6
  go_wp2_with (first
    | ((with_reducible refine wpList_store_new 158 (.tmp 4) (.tmp 23) b4 zcell c.cells 158 HB6.out rfl sizeCell (cell_one _) ?hgd ?ho ?hx ?hy ?_); (case hgd | ho | hx | hy => rfl); (intro w9 B9 o9))
    | fail)
  (try simp only [Exit.inBlock, Exit.then]); refine bodyPost_ret (results_cell1t rfl _ _ B9.range rfl Tryz.underlying158 rfl sizeCell) rfl ⟨rfl, o9.below HBE6.out HL4.out⟩
def segD (ep : Int) (c : CellD) (k : Nat) : DataW Unit := if k = 0 then .map [] else (DataW.map []).put (.int .i64 c.lba) (.lit (.string (dataH ep c.slot c.cipher.data.toList)))
set_option maxHeartbeats 8000000 in
theorem vsegment1_walk (i : VolI) (v : VolD) (ep : Int) (x : VersD) (c : CellD) (w : World) (h : VolAt w i v) (ok : VolOk v) (e0 : 0 ≤ ep) (e1 : ep ≤ 4294967295) (hE : ofE v.vers ep = [x]) (hx : x.slot = c.slot) (hvn : v.vers.length ≤ 4096)
    (h0 : 0 ≤ c.slot) (h1 : c.slot < v.used) (hc : CellOk c) (hg : c.gone = false) (hl0 : 0 ≤ c.lba) (hl1 : c.lba < 4096) (hb : Txt (v.d.shown (4 + c.slot)) (cellL c)) :
    Calls Tryz.prog 58 #[.pointer (some ⟨i.vb, 0, none⟩), .int .i64 ep] w fun e w' => (∃ ps B, e = .returned (.tuple #[.pointer (some ⟨ps, 0, none⟩), .int .i64 0]) ∧ SegAt w' ps B 1 ep (segD ep c 1)) ∧ Below w.heap.size w w' := by
  have HCW := Lib.hid (fun (wx : World) (hh : VolAt wx i v) => vcell_walk i v c wx hh ok h0 h1 hc hg hb)
  have HE := Lib.hid hE
  have HXS := Lib.hid hx
  have HVN := Lib.hid hvn
  have HEP := Lib.hid (show 0 ≤ ep ∧ ep ≤ 4294967295 from ⟨e0, e1⟩)
  have HSL := Lib.hid (show 0 ≤ c.slot ∧ c.slot ≤ 4294967295 from ⟨h0, by have := ok.u1; have := ok.sup.geo.b1; omega⟩)
  have HLB := Lib.hid (show 0 ≤ c.lba ∧ c.lba < 4096 from ⟨hl0, hl1⟩)
  have HCN := Lib.hid hc.n
  have H0 := Lib.hid h
  clear ok h0 h1 hc hg hb h hE hx hvn e0 e1 hl0 hl1
  go_enter Tryz.func58, Tryz.ntmps58
  go_wp2_with fail
  refine (segNew_walk ep _ HEP.out.1 HEP.out.2).mono ?_
  rintro e w1 ⟨⟨ps, B, rfl, hs1, hB, hps⟩, hb1⟩
  have HS1 := Lib.hid hs1
  have HB := Lib.hid hB
  have HBE1 := Lib.hid hb1
  have H1 := Lib.hid (H0.out.below hb1)
  have v3 : w1.cell? ⟨i.vb, 3, none⟩ = some (.pointer (some ⟨i.xb, 0, none⟩)) := H1.out.vol.cell (i := 3) rfl
  clear hs1 hB hps hb1
  go_wp2_with fail
  refine (iepoch_walk i.xb _ i.xv v.vers ep _ H1.out.index H1.out.vers rfl HVN.out (by rw [HE.out]; exact Nat.le_refl _)).mono ?_
  rintro e w2 ⟨⟨ve, rfl, hve⟩, hb2⟩
  rw [HE.out] at hve
  have hve2 : w2.ownsRow w1.heap.size 154 3 ve 1 (flatV [x]) := hve
  obtain ⟨g, cap, z, rfl, hcap, hg1, hG⟩ := own_split hve2 (by omega)
  have HG := Lib.hid hG
  have HBE2 := Lib.hid (HBE1.out.trans (hb2.mono HBE1.out.size))
  have HS2 := Lib.hid (HS1.out.below hb2)
  have H2 := Lib.hid (H1.out.below hb2)
  clear v3 hve hve2 hb2 hG hcap hg1
  go_wp2_with fail
  go_loopw [24] (fun k wr => (k = .int .i64 0 ∧ wr = w2) ∨ (k = .int .i64 1 ∧ Hid (SegAt wr ps B 1 ep (segD ep c 1)) ∧ Hid (Below w.heap.size w wr))) (fun k _ => 1 - (intOf k).toNat)
  case atStart => exact .inl ⟨rfl, rfl⟩
  case round =>
    rcases hrel with ⟨rfl, rfl⟩ | ⟨rfl, HS9, HBE9⟩
    · have HRX := Lib.hid (show wr.rangeAt g (0 * 3) x.cells from vers_at (l := [x]) HG.out rfl)
      go_wp2_with (first
        | ((with_reducible refine wpList_load_met 154 (.tmp 26) g 0 x.cells _ (some 27) HRX.out Tryz.underlying154 rfl sizeVers ?hg ?ho ?hds ?hx ?_); (case ho | hg | hds | hx => rfl))
        | ((with_reducible refine wpList_alloc_new 154 _ zeroVers (some 9) ?hgd ?ho ?hd ?_); (case hgd | ho | hd => rfl); (intro b9 w5 l5 B5 e5 z5))
        | ((with_reducible refine wpList_store_new 154 (.tmp 9) (.tmp 27) b9 (VersD.cells ⟨0, 0, 0⟩) x.cells 154 B5 rfl sizeVers (vers_one _) ?hgd ?ho ?hx ?hy ?_); (case hgd | ho | hx | hy => rfl); (intro w6 B6 o6; have y2 : w6.cell? ⟨b9, 2, none⟩ = some (.int .i64 c.slot) := (by rw [← HXS.out]; exact B6.cell (i := 2) rfl)))
        | fail)
      have hb6 : Below wr.heap.size wr w6 := o6.below (e5.mono l5) l5
      have HBE6 := Lib.hid (HBE2.out.trans (hb6.mono HBE2.out.size))
      have HS6 := Lib.hid (HS2.out.below hb6)
      have H6 := Lib.hid (H2.out.below hb6)
      clear B5 B6 e5 z5 o6 l5 hb6 y2
      refine (HCW.out _ H6.out).mono ?_
      rintro e w7 ⟨rfl, hb7⟩
      have HBE7 := Lib.hid (HBE6.out.trans (hb7.mono HBE6.out.size))
      have HS7 := Lib.hid (HS6.out.below hb7)
      clear hb7
      go_wp2_with (first
        | ((with_reducible refine wpList_alloc_new 158 _ zeroCell (some 10) ?hgd ?ho ?hd ?_); (case hgd | ho | hd => rfl); (intro b10 w8 l8 B8 e8 z8))
        | ((with_reducible refine wpList_store_new 158 (.tmp 10) (.tmp 33) b10 zcell c.cells 158 B8 rfl sizeCell (cell_one _) ?hgd ?ho ?hx ?hy ?_); (case hgd | ho | hx | hy => rfl); (intro w9 B9 o9; have y1 := B9.cell (i := 1) rfl; have y2 := B9.cell (i := 2) rfl; have y4 := B9.cell (i := 4) rfl))
        | fail)
      have hb9 : Below w7.heap.size w7 w9 := o9.below (e8.mono l8) l8
      have HBE9 := Lib.hid (HBE7.out.trans (hb9.mono HBE7.out.size))
      have HS9 := Lib.hid (HS7.out.below hb9)
      clear B8 B9 e8 z8 o9 l8 hb9 y1 y2 y4
      refine (segPut_walk ps B 0 ep c.lba c.slot c.cipher _ w _ HS9.out HBE9.out HB.out (by omega) HEP.out.1 HEP.out.2 HSL.out.1 HSL.out.2 HLB.out.1 HLB.out.2 HCN.out).mono ?_
      rintro e w10 ⟨⟨rfl, hs10⟩, hb10⟩
      have HS10 := Lib.hid hs10
      have HBE10 := Lib.hid hb10
      clear hs10 hb10
      go_wp2_with fail
      go_roundw
      case rel => exact .inr ⟨by go_num, HS10, HBE10⟩
      case measure => simp [intOf]
    · go_wp2_with fail
      go_ret2
      exact ⟨⟨ps, B, rfl, HS9.out⟩, HBE9.out⟩
end Go.Proofs.YtppdboadjefieaaGreat

namespace Go.Proofs.YtppdboadjefieaaGreat
open Go Go.RowKit
set_option maxRecDepth 100000

set_option maxHeartbeats 4000000 in
theorem ringNone_walk (n : Int) (key : ByteArray) (w : World) (hk : key.size = 32) :
    Calls Tryz.prog 63 #[.pointer none, .int .i64 n, .string key] w fun e w' => (∃ s, e = .returned (.string s) ∧ Txt s (madeL key.data.toList [110, 101, 120, 116] [])) ∧ Below w.heap.size w w' := by
  have HK := Lib.hid hk
  clear hk
  go_enter Tryz.func63, Tryz.ntmps63
  go_wp2_with fail
  refine (nextKey_walk key _).mono ?_
  rintro e w1 ⟨he, hb1⟩
  obtain ⟨s, rfl, ts⟩ := he.yes HK.out
  have HTS := Lib.hid ts
  have HB1 := Lib.hid hb1
  clear ts hb1 he
  go_wp2_with fail
  go_ret
  exact ⟨⟨s, rfl, HTS.out⟩, HB1.out⟩
set_option maxHeartbeats 4000000 in
theorem ringTag_walk (key was : ByteArray) (seq : Int) (r : Rec) (w : World) (hk : key.size = 32) (hok : saidCOk was seq r) (hroot : r.root.size ≤ 1048576) (hname : r.name.size ≤ 1048576) (hf : Fits r.epoch) (hs : Fits seq) :
    Calls Tryz.prog 133 #[.pointer none, .string key, .string was, .int .i64 seq, r.v] w fun e w' => (∃ s, e = .returned (.string s) ∧ Txt s (tagC key.data.toList was.data.toList seq r)) ∧ Below w.heap.size w w' := by
  have HK := Lib.hid (show key.size = 32 ∧ saidCOk was seq r from ⟨hk, hok⟩)
  have HF := Lib.hid (show (r.root.size ≤ 1048576 ∧ r.name.size ≤ 1048576) ∧ Fits r.epoch ∧ Fits seq from ⟨⟨hroot, hname⟩, hf, hs⟩)
  clear hk hok hroot hname hf hs
  go_enter Tryz.func133, Tryz.ntmps133
  go_upto_region 1 with (first
    | ((with_reducible refine wpList_box_new 62 (.tmp 4) r.cells (some 9) ?hgd ?ho ?hd ?hx ?_); (case hgd | ho | hd | hx => rfl); (intro b w0 l0 B0 e0 z0))
    | fail)
  have HB0 := Lib.hid B0
  have HBE0 := Lib.hid (e0.mono l0)
  clear B0 e0 l0 z0
  go_region
  have HBd := Lib.hid HB0.out.drew
  have HBEd := Lib.hid HBE0.out.drew
  obtain ⟨wd, hwd⟩ : ∃ wd, wd = w0.drew := ⟨_, rfl⟩
  rw [← hwd] at HBd HBEd
  rw [← hwd]
  clear hwd HB0 HBE0
  go_wp2_with (first
    | ((with_reducible refine wpList_load_blk 62 (.tmp 9) b r.cells 62 _ HBd.out Tryz.underlying62 rfl rsizeRec ?hgd ?ho ?hx ?_); (case hgd | ho | hx => rfl))
    | fail)
  refine (ctag_walk key was seq r _ HF.out.1.1 HF.out.1.2 HF.out.2.1 HF.out.2.2).mono ?_
  rintro e w1 ⟨he, hb1⟩
  obtain ⟨s, rfl, ts⟩ := he.yes HK.out
  have HTS := Lib.hid ts
  have HB1 := Lib.hid (HBEd.out.trans (hb1.mono HBEd.out.size))
  clear ts hb1 he
  go_wp2_with fail
  go_ret
  exact ⟨⟨s, rfl, HTS.out⟩, HB1.out⟩
end Go.Proofs.YtppdboadjefieaaGreat

