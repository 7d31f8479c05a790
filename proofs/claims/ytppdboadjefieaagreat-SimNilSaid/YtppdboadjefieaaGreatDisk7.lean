/- A new disk (chapter 8): New. -/
import Derived.Test.YtppdboadjefieaaGreatDisk2
import Derived.Deep.RegionLaw
namespace Go.Proofs.YtppdboadjefieaaGreat
set_option linter.unusedSimpArgs false
set_option linter.unusedVariables false
open Go Go.RowKit
set_option linter.unusedVariables false
set_option maxRecDepth 100000

/-- The blocks' row has turned, and lies where it lay, or in a block that was not there: and then the disk's own cell. -/
theorem DiskAt.blocked {u w w' : World} {db : Nat} {d : DiskD} {v : Value} {l : List ByteArray} (h : DiskAt u db d) (hr : w.ownsRow 0 9 1 v l.length (l.map .string)) (hg : u.grownBy w d.bv.ownBlock) (hn : Near u d.bv.ownBlock v.ownBlock)
    (o : Only db w w') (hb : Blk w' db ({ d with bv := v, bs := l } : DiskD).cells 124) : DiskTo u w' db d { d with bv := v, bs := l } := by
  have t1 : Turned (d.foot db) u w := Turned.of_grown hg (fun k hk => DiskD.mem1 hk)
  have t2 : Turned [db] w w' := o.turned (by simp)
  have hvdb : v.ownBlock ≠ some db := by
    intro he
    rcases hn with h1 | h1
    · exact h.n1 (by rw [← h1]; exact he)
    · have := h1 db he; have := h.blk.lt; omega
  refine ⟨⟨hb, own_turned hr t2 (fun k hk hm => hvdb (by simp at hm; rw [hk, hm])), ?_, hvdb, h.n2, ?_⟩, ?_, ?_⟩
  · refine own_turned (S := [db]) ?_ t2 (fun k hk hm => h.n2 (by simp at hm; rw [hk, hm]))
    exact own_turned (S := d.bv.ownBlock.toList) h.rc (Turned.of_grown hg (fun k hk => by simp [hk])) (fun k hk hm => h.n3 k (by simpa using hm) hk)
  · intro g hgb hgv
    rcases hn with h1 | h1
    · exact h.n3 g (by rw [← h1]; exact hgb) hgv
    · have := h1 g hgb; have := (h.rc.lt g hgv).2; omega
  · exact t1.trans (t2.mono (fun x hx => by simp at hx; subst hx; simp [DiskD.foot]))
  · intro x hx
    simp only [DiskD.foot, List.mem_cons, List.mem_append, Option.mem_toList, Option.mem_def] at hx ⊢
    rcases hx with hx | hx | hx
    · exact .inl (.inl hx)
    · rcases hn with h1 | h1
      · exact .inl (.inr (.inl (by rw [← h1]; exact hx)))
      · exact .inr (h1 x hx)
    · exact .inl (.inr (.inr hx))
def noughtB : ByteArray := ⟨(List.replicate 4096 0).toArray⟩
/-- A disk of so many noughts. -/
def newDisk (n : Nat) (v : Value) : DiskD := ⟨v, List.replicate n noughtB, .slice none 0 0, [], false, 0⟩
theorem sizeDisk {a b c d e : Value} : (Tryz.prog.info? 124).map (·.size) = some [a, b, c, d, e].length := by kernel_rfl
theorem builtDisk : Tryz.prog.built 124 [(1, .bool true)] = some (newDisk 0 (.slice none 0 0)).cells.toArray := by kernel_rfl
set_option maxHeartbeats 2000000 in
theorem dnew_walk (n : Nat) (w : World) (h8 : 8 ≤ n) (h1 : n ≤ 1024) :
    Calls Tryz.prog 15 #[.int .i64 (n : Int)] w fun e w' => (∃ db v, e = .returned (.tuple #[.pointer (some ⟨db, 0, none⟩), .int .i64 0]) ∧ DiskAt w' db (newDisk n v) ∧ ∀ x, x ∈ (newDisk n v).foot db → w.heap.size ≤ x) ∧ Below w.heap.size w w' := by
  obtain ⟨j0, ji, jz0, jz1, jz2⟩ := info_parts infoStr8
  have hn0 : (8 : Int) ≤ (n : Int) := by omega
  have hn1 : (n : Int) ≤ 1024 := by omega
  go_enter Tryz.func15, Tryz.ntmps15
  go_wp2_with (first
    | ((with_reducible refine wpList_build_eq 124 ?parts ((newDisk 0 (.slice none 0 0)).cells) ?hg ?ho ?hf ?_); (case hg => rfl); (case ho => rfl); (case hf => exact builtDisk))
    | ((with_reducible refine wpList_box_new 124 (.tmp 11) ((newDisk 0 (.slice none 0 0)).cells) (some 12) ?hgd ?ho ?hd ?hx ?_); (case hgd => rfl); (case ho => rfl); (case hd => rfl); (case hx => rfl); (intro db w1 l1 B1 e1 z1))
    | fail)
  have hA1 : DiskAt w1 db (newDisk 0 (.slice none 0 0)) := ⟨B1, World.ownsRow_nil _ _ _ _, World.ownsRow_nil _ _ _ _, by simp [newDisk, Value.ownBlock], by simp [newDisk, Value.ownBlock], by simp [newDisk, Value.ownBlock]⟩
  have HL := Lib.hid l1
  have hbel := e1.mono l1
  clear B1 e1 z1
  go_loopw [14] (fun i wr => ∃ (k : Nat) (v : Value), k ≤ n ∧ i = .int .i64 k ∧ DiskAt wr db (newDisk k v) ∧ (∀ x, x ∈ (newDisk k v).foot db → w.heap.size ≤ x) ∧ Below w.heap.size w wr) (fun i _ => n - (intOf i).toNat)
  case atStart => exact ⟨0, .slice none 0 0, by omega, rfl, hA1, by intro x hx; simp [DiskD.foot, newDisk, Value.ownBlock] at hx; subst hx; exact HL.out, hbel⟩
  case round =>
    clear hA1 hbel
    obtain ⟨k, v, hk, rfl, hA, hF, hbel⟩ := hrel
    have HA := Lib.hid hA
    have HF := Lib.hid hF
    have HB := Lib.hid hbel
    clear hA hF hbel
    by_cases hlt : k < n
    · have hlt' : (k : Int) < n := by omega
      have c0 := HA.out.blk.cell (i := 0) rfl
      obtain ⟨pv, cv, hv⟩ := bv_shape HA.out
      have hkl : (newDisk k v).bs.length = k := by simp [newDisk]
      rw [hkl] at hv
      have hv' : v = .slice pv k cv := hv
      subst hv'
      have HKL := Lib.hid hkl
      clear hv hkl
      go_wp2_with fail
      go_region_law (first
        | (refine step_append_at rfl _ _ 24 rfl j0 (.string ⟨#[]⟩) 16 Tryz.underlying24 ji jz0 jz1 jz2 rfl (by decide) rfl OW7.out ⟨w7.heap.size, 0, none⟩ 1 1 [.string s] rfl rfl (cells_add (Blk.new w7 [.string s] 9)) (by intro u hu; simp at hu; subst hu; rfl) (by unfold maxLen; omega) (by omega) (Nat.zero_le _) ?_; intro v' w8 own8 grow8 near8; obtain ⟨p8, q8, hv8⟩ := own_shape own8; subst hv8; have B8 := HB7.out.grown grow8 (fun he => HA.out.n1 he.symm); have c8 := B8.cell (i := 0) rfl; have f8 := B8.free 0)
        | (go_simp; go_at_call 48; refine (repeat0 4096 _ (by decide)).mono ?_; rintro e w7 ⟨s, rfl, ts, hb7⟩; have TS := Lib.hid ts; have hx7 := (HA.out.below (Below.refl _ _).drew).below hb7; have HX7 := Lib.hid hx7; have ow7 : w7.ownsRow 0 9 1 (.slice pv k cv) k ((List.replicate k noughtB).map .string) := (by have h9 := hx7.rb; rw [HKL.out] at h9; exact h9); have OW7 := Lib.hid (World.ownsRow.alloc ow7 (.cells #[.string s] 9)); clear ow7; have HB7 := Lib.hid (hx7.blk.alloc (.cells #[.string s] 9)); have c7 := hx7.blk.cell (i := 0) rfl; have c7a := HB7.out.cell (i := 0) rfl; have HBE7 := Lib.hid (HB.out.drew.trans (hb7.mono HB.out.drew.size)); clear ts hx7 hb7)
        | fail)
      all_goals
        have hs : s = noughtB := TS.out.of
        have AU : DiskAt (w7.alloc (.cells #[.string s] 9)) db (newDisk k (.slice pv k cv)) := HX7.out.below ((Below.refl _ _).alloc (Nat.le_refl _) _)
        have hr : w8.ownsRow 0 9 1 (.slice p8 (k + 1) q8) (List.replicate (k + 1) noughtB).length ((List.replicate (k + 1) noughtB).map .string) := by
          rw [List.length_replicate, List.replicate_succ', List.map_append, ← hs]
          rw [← hs] at own8
          exact own8
        have hT := AU.blocked (w := w8) (v := .slice p8 (k + 1) q8) (l := List.replicate (k + 1) noughtB) hr grow8 near8 ((Only.refl db w8).setCell 0 _) (B8.set 0 _)
        have HTO := Lib.hid hT
        have HSZ := Lib.hid (show w.heap.size ≤ (w7.alloc (.cells #[.string s] 9)).heap.size by have := HBE7.out.size; simp; omega)
        have HBU := Lib.hid (show Below w.heap.size w (w7.alloc (.cells #[.string s] 9)) from HBE7.out.alloc HBE7.out.size _)
        clear hs AU hr hT own8 grow8 near8 B8 c8 f8 c7 c7a
        go_wp2_with fail
        go_roundw
        case rel =>
          refine ⟨k + 1, .slice p8 (k + 1) q8, by omega, by go_num, HTO.out.at', fun x hx => ?_, HTO.out.turned.below HBU.out HF.out HSZ.out⟩
          rcases HTO.out.foot x hx with h9 | h9
          · exact HF.out x h9
          · exact Nat.le_trans HSZ.out h9
        case measure => simp [intOf]; omega
    · obtain rfl : k = n := by omega
      go_wp2_with fail
      go_ret2
      exact ⟨⟨db, v, rfl, HA.out, HF.out⟩, HB.out⟩
end Go.Proofs.YtppdboadjefieaaGreat
