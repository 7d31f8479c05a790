/- Flush, of a disk that has power, and no step at which it goes (chapter 8). -/
import Derived.Test.YtppdboadjefieaaGreatDisk2
import Derived.Test.YtppdboadjefieaaGreatDisk3
import Derived.Test.YtppdboadjefieaaGreatLoad
namespace Go.Proofs.YtppdboadjefieaaGreat
set_option linter.unusedSimpArgs false
set_option linter.unusedVariables false
open Go Go.RowKit
set_option linter.unusedVariables false
set_option maxRecDepth 100000

/-- The blocks, behind the first of these writes. -/
def putsTo (bs : List ByteArray) (cs : List (Int × ByteArray)) : Nat → List ByteArray
  | 0 => bs
  | k + 1 => (putsTo bs cs k).set (cs.getD k (0, ByteArray.empty)).1.toNat (cs.getD k (0, ByteArray.empty)).2
theorem putsTo_length (bs : List ByteArray) (cs : List (Int × ByteArray)) : ∀ k, (putsTo bs cs k).length = bs.length
  | 0 => rfl
  | k + 1 => by unfold putsTo; rw [List.length_set, putsTo_length bs cs k]
theorem DiskAt.stored {w : World} {db : Nat} {d : DiskD} (h : DiskAt w db d) {g c : Nat} (hv : d.bv = .slice (some ⟨g, 0, none⟩) d.bs.length c) (i : Nat) (s : ByteArray) :
    DiskTo w (w.setCell ⟨g, i, none⟩ (.string s)) db d { d with bs := d.bs.set i s } := by
  have hr := h.rb
  rw [hv] at hr
  obtain ⟨h1, h2⟩ := hr.stored i (.string s)
  have hgb : d.bv.ownBlock = some g := by rw [hv]; rfl
  have t : Turned [g] w (w.setCell ⟨g, i, none⟩ (.string s)) := Turned.of_grown h2 (fun k hk => by injection hk with hk; simp [hk])
  refine ⟨⟨t.blk h.blk (by simp; intro he; exact h.n1 (by rw [hgb, he])), ?_, own_turned h.rc t (fun k hk hm => by simp at hm; subst hm; exact h.n3 k hgb hk), h.n1, h.n2, h.n3⟩, t.mono (fun x hx => by simp at hx; subst hx; exact DiskD.mem1 hgb), fun x hx => .inl hx⟩
  show World.ownsRow _ 0 _ 1 d.bv (d.bs.set i s).length _
  rw [hv, List.length_set, List.map_set]
  exact h1
theorem DiskAt.uncached {w w' : World} {db : Nat} {d : DiskD} (h : DiskAt w db d) (o : Only db w w') (hb : Blk w' db ({ d with cv := .slice none 0 0, cs := [] } : DiskD).cells 124) : DiskTo w w' db d { d with cv := .slice none 0 0, cs := [] } := by
  have t : Turned [db] w w' := o.turned (by simp)
  refine ⟨⟨hb, own_turned h.rb t (fun k hk hm => h.n1 (by simp at hm; rw [hk, hm])), World.ownsRow_nil _ _ _ _, h.n1, by simp [Value.ownBlock], fun g _ => by simp [Value.ownBlock]⟩, t.mono (fun x hx => by simp at hx; subst hx; simp [DiskD.foot]), fun x hx => ?_⟩
  simp only [DiskD.foot, List.mem_cons, List.mem_append, Option.mem_toList, Option.mem_def, Value.ownBlock] at hx ⊢
  rcases hx with hx | hx | hx
  · exact .inl (.inl hx)
  · exact .inl (.inr (.inl hx))
  · cases hx
theorem sizePut8 {p : Int × ByteArray} : (Tryz.prog.info? 129).map (·.size) = some (putCells p).length := by kernel_rfl
theorem zeroPut8 (w : World) : Sem.run Tryz.prog (zeroValue 129) w = .ok (.agg (putCells (0, ⟨#[]⟩)).toArray) w := by kernel_rfl
theorem putCells_one (p : Int × ByteArray) : ∀ v ∈ putCells p, v.oneCell' = true := by intro v hv; simp [putCells] at hv; rcases hv with rfl | rfl <;> rfl
theorem flushYes_walk (k : Int) (w : World) :
    Calls Tryz.prog 241 #[.int .i64 k] w fun e w' => e = .returned (.bool true) ∧ w = w' := by
  go_enter Tryz.func241, Tryz.ntmps241
  go_wp2_with fail
  go_ret
  exact ⟨rfl, rfl⟩
/-- A disk behind Flush. -/
def DiskD.flushed (d : DiskD) : DiskD := { d with bs := putsTo d.bs d.cs d.cs.length, cv := .slice none 0 0, cs := [] }
set_option maxHeartbeats 2000000 in
theorem ddo_walk (db : Nat) (d : DiskD) (w : World) (h : DiskAt w db d) (hc : d.cs.length ≤ 4096) (hb : d.bs.length ≤ 1024) (hin : ∀ (j : Nat) p, d.cs[j]? = some p → 0 ≤ p.1 ∧ p.1 < d.bs.length) :
    Calls Tryz.prog 202 #[.pointer (some ⟨db, 0, none⟩), .func (.func 241) #[] #[]] w fun e w' => e = .returned (.tuple #[]) ∧ DiskTo w w' db d d.flushed := by
  have HH := Lib.hid h
  have HIN := Lib.hid hin
  obtain ⟨n, hn⟩ : ∃ n, d.cs.length = n := ⟨_, rfl⟩
  have HN := Lib.hid hn
  rw [hn] at hc
  obtain ⟨pc, cc, hcv⟩ := cv_shape h
  have c1 := h.blk.cell (i := 1) rfl
  rw [hcv, hn] at c1
  have HCV := Lib.hid hcv
  clear h hcv hn hin
  go_enter Tryz.func202, Tryz.ntmps202
  go_wp2_with fail
  clear c1
  go_loopw [12] (fun i wr => ∃ k : Nat, k ≤ n ∧ i = .int .i64 k ∧ DiskTo w wr db d { d with bs := putsTo d.bs d.cs k }) (fun i _ => n - (intOf i).toNat)
  case atStart => exact ⟨0, by omega, rfl, DiskTo.refl HH.out⟩
  case round =>
    obtain ⟨k, hk, rfl, hto⟩ := hrel
    have HT := Lib.hid hto
    clear hto
    by_cases hlt : k < n
    · have hlt' : (k : Int) < n := by omega
      have hk0 : (0 : Int) ≤ (k : Int) := by omega
      have hkc : k < d.cs.length := by rw [HN.out]; exact hlt
      obtain ⟨g, c, hv, q0, q1⟩ := HT.out.at'.cached_at (k := k) hkc
      obtain ⟨at_, data, hpq⟩ : ∃ a s, d.cs.getD k (0, ByteArray.empty) = (a, s) := ⟨_, _, rfl⟩
      obtain ⟨hi0, hi1⟩ := HIN.out k (at_, data) (by rw [← hpq]; simp [List.getD, List.getElem?_eq_getElem hkc])
      obtain ⟨i, rfl⟩ : ∃ i : Nat, at_ = (i : Int) := ⟨at_.toNat, by simp at hi0; omega⟩
      have hpv : pc = some ⟨g, 0, none⟩ ∧ cc = c := by
        have h1 := HCV.out
        have h2 : d.cv = .slice (some ⟨g, 0, none⟩) d.cs.length c := hv
        rw [h1] at h2
        injection h2 with h3 _ h4
        exact ⟨h3, h4⟩
      obtain ⟨rfl, rfl⟩ := hpv
      simp only at hi0 hi1
      have hq : (d.cs.getD k (0, ByteArray.empty)) = ((i : Int), data) := hpq
      have q0' : wr.cell? ⟨g, k * 2, none⟩ = some (.int .i64 (i : Int)) := by rw [q0]; simp only [hq]
      have q1' : wr.cell? ⟨g, k * 2 + 1, none⟩ = some (.string data) := by rw [q1]; simp only [hq]
      have HR : wr.rangeAt g (k * 2) (putCells ((i : Int), data)) := by
        intro j u hu
        match j, hu with
        | 0, hu => simp [putCells] at hu; subst hu; simpa using q0'
        | 1, hu => simp [putCells] at hu; subst hu; exact q1'
        | j + 2, hu => simp [putCells] at hu
      have HQ := Lib.hid hq
      clear q0 q1 q0' q1' hpq hv hq
      go_wp2_with (first
        | ((with_reducible refine wpList_load_met 129 (.tmp 15) g (k * 2) (putCells ((i : Int), data)) _ (some 16) HR Tryz.underlying129 rfl sizePut8 ?hg ?ho ?hds ?hx ?_); (case ho => rfl); (case hg => rfl); (case hds => rfl); (case hx => go_num))
        | ((with_reducible refine wpList_alloc_new 129 _ zeroPut8 (some 5) ?hgd ?ho ?hd ?_); (case hgd => rfl); (case ho => rfl); (case hd => rfl); (intro b5 w5 l5 B5 e5 z5))
        | ((with_reducible refine wpList_store_new 129 (.tmp 5) (.tmp 16) b5 (putCells (0, ⟨#[]⟩)) (putCells ((i : Int), data)) 129 B5 rfl sizePut8 (putCells_one _) ?hgd ?ho ?hx ?hy ?_); (case hgd => rfl); (case ho => rfl); (case hx => rfl); (case hy => rfl); (intro w6 B6 o6))
        | fail)
      refine (flushYes_walk _ _).mono ?_
      rintro e w' ⟨rfl, rfl⟩
      have hb6 : Below wr.heap.size wr w6 := o6.below (e5.mono l5) l5
      have A6 := HT.out.at'.below hb6
      have hil : i < (putsTo d.bs d.cs k).length := by rw [putsTo_length]; omega
      obtain ⟨gb, cb, hbv, hblk⟩ := A6.block (i := i) hil
      have c0 := A6.blk.cell (i := 0) rfl
      have hbv' : d.bv = .slice (some ⟨gb, 0, none⟩) d.bs.length cb := by have := hbv; simp only [putsTo_length] at this; exact this
      have c0' : w6.cell? ⟨db, 0, none⟩ = some (.slice (some ⟨gb, 0, none⟩) d.bs.length cb) := by rw [← hbv']; exact c0
      have p0 := B6.cell (i := 0) rfl
      have p1 := B6.cell (i := 1) rfl
      have hfz : w6.frozen? ⟨gb, i, none⟩ = false := by
        have hr := A6.rb
        simp only at hr
        rw [hbv] at hr
        exact hr.frozenAt i
      have hi1' : (i : Int) < (d.bs.length : Int) := hi1
      have hi0' : (0 : Int) ≤ (i : Int) := by omega
      have HA6 := Lib.hid A6
      have HBV := Lib.hid hbv'
      have HB6 := Lib.hid hb6
      clear c0 hbv hbv' A6 hb6 B6 o6 e5 B5 HR hi0 hi1 hil
      go_wp2_with fail
      refine wp_region_still_tail_drew 10 (by kernel_rfl) (by kernel_rfl) ?_
      simp only [List.take_succ_cons, List.take_zero, List.drop_succ_cons, List.drop_zero]
      iterate 10 still_step
      refine wpStill_nil ?_
      go_wp2_with fail
      go_roundw
      case rel =>
        refine ⟨k + 1, by omega, by go_num, ?_⟩
        have hA := HA6.out.below ((Below.refl w6.heap.size w6).drew)
        have hs := hA.stored (g := gb) (c := cb) (by simp only [putsTo_length]; exact HBV.out) i data
        have ht := ((HT.out.below (HB6.out)).below ((Below.refl w6.heap.size w6).drew)).trans hs
        unfold putsTo
        rw [HQ.out]
        exact ht
      case measure => simp [intOf]; omega
    · obtain rfl : k = n := by omega
      have Bk := HT.out.at'.blk
      have hlen8 : 1 < (DiskD.cells { d with bs := putsTo d.bs d.cs k }).length := by show 1 < 5; decide
      go_wp2_with (first
        | ((with_reducible refine wpList_store_at 31 (.tmp 34) (.const (.slice none 0 0)) db 1 (.slice none 0 0) _ 124 Bk hlen8 oneSl8 rfl ?hgd ?ho ?hx ?hy ?_); (case hgd => rfl); (case ho => rfl); (case hx => rfl); (case hy => rfl); (intro w4 B4 o4))
        | fail)
      go_end0
      refine ⟨rfl, ?_⟩
      have := HT.out.trans (HT.out.at'.uncached o4 B4)
      unfold DiskD.flushed
      rw [HN.out]
      exact this
end Go.Proofs.YtppdboadjefieaaGreat
