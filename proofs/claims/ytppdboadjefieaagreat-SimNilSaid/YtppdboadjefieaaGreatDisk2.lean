/- A disk that has power, and no step at which it goes (chapter 8): step, Write, New. -/
import Derived.Test.YtppdboadjefieaaGreatDisk1
import Derived.Carry
import Derived.OrdersHeld
namespace Go.Proofs.YtppdboadjefieaaGreat
set_option linter.unusedSimpArgs false
set_option linter.unusedVariables false
open Go Go.RowKit
set_option linter.unusedVariables false
set_option maxRecDepth 100000

theorem infoPut8 : (Tryz.prog.info? 129).map (fun i => (i.zero, i.size, i.bytes)) = some (some (.agg #[.int .i64 0, .string ⟨#[]⟩]), 2, 24) := by kernel_rfl
theorem infoStr8 : (Tryz.prog.info? 9).map (fun i => (i.zero, i.size, i.bytes)) = some (some (.string ⟨#[]⟩), 1, 16) := by kernel_rfl
theorem oneSl8 : (Tryz.prog.info? 31).map (·.size) = some 1 := by kernel_rfl
theorem oneSs8 : (Tryz.prog.info? 24).map (·.size) = some 1 := by kernel_rfl
theorem own_one8 {w : World} {base : Nat} {e : TypeId} {size : Nat} {v : Value} {n : Nat} {xs : List Value} (h : w.ownsRow base e size v n xs) : v.oneCell' = true := by obtain ⟨p', c', h'⟩ := own_shape h; rw [h']; rfl
theorem dstep_calm (db : Nat) (d : DiskD) (w : World) (h : DiskAt w db d) (hd : d.down = false) (hl : d.left = 0) :
    Calls Tryz.prog 240 #[.pointer (some ⟨db, 0, none⟩)] w fun e w' => e = .returned (.bool false) ∧ w = w' := by
  have c3 := h.blk.cell (i := 3) rfl
  have c4 := h.blk.cell (i := 4) rfl
  rw [hd] at c3
  rw [hl] at c4
  go_enter Tryz.func240, Tryz.ntmps240
  go_wp2_with fail
  go_ret
  exact ⟨rfl, rfl⟩
theorem DiskAt.only {w w' : World} {db : Nat} {d d' : DiskD} (h : DiskAt w db d) (o : Only db w w') (hb : Blk w' db d'.cells 124) (e1 : d'.bv = d.bv) (e2 : d'.bs = d.bs) (e3 : d'.cv = d.cv) (e4 : d'.cs = d.cs) : DiskAt w' db d' := by
  have t : Turned [db] w w' := o.turned (by simp)
  refine ⟨hb, ?_, ?_, by rw [e1]; exact h.n1, by rw [e3]; exact h.n2, by rw [e1, e3]; exact h.n3⟩
  · rw [e1, e2]; exact own_turned h.rb t (fun k hk hm => h.n1 (by simp at hm; rw [hk, hm]))
  · rw [e3, e4]; exact own_turned h.rc t (fun k hk hm => h.n2 (by simp at hm; rw [hk, hm]))
/-- The cache's row has turned, and lies where it lay, or in a block that was not there: and then the disk's own cell. -/
theorem DiskAt.cached {u w w' : World} {db : Nat} {d : DiskD} {v : Value} {l : List (Int × ByteArray)} (h : DiskAt u db d) (hr : w.ownsRow 0 129 2 v l.length (flatP l)) (hg : u.grownBy w d.cv.ownBlock) (hn : Near u d.cv.ownBlock v.ownBlock)
    (o : Only db w w') (hb : Blk w' db ({ d with cv := v, cs := l } : DiskD).cells 124) : DiskTo u w' db d { d with cv := v, cs := l } := by
  have t1 : Turned (d.foot db) u w := Turned.of_grown hg (fun k hk => DiskD.mem2 hk)
  have t2 : Turned [db] w w' := o.turned (by simp)
  have hvdb : v.ownBlock ≠ some db := by
    intro he
    rcases hn with h1 | h1
    · exact h.n2 (by rw [← h1]; exact he)
    · have := h1 db he; have := h.blk.lt; omega
  refine ⟨⟨hb, ?_, ?_, h.n1, hvdb, ?_⟩, ?_, ?_⟩
  · refine own_turned (S := [db]) ?_ t2 (fun k hk hm => h.n1 (by simp at hm; rw [hk, hm]))
    exact own_turned (S := d.cv.ownBlock.toList) h.rb (Turned.of_grown hg (fun k hk => by simp [hk])) (fun k hk hm => h.n3 k hk (by simpa using hm))
  · exact own_turned hr t2 (fun k hk hm => hvdb (by simp at hm; rw [hk, hm]))
  · intro g hgb hgv
    rcases hn with h1 | h1
    · exact h.n3 g hgb (by rw [← h1]; exact hgv)
    · have := h1 g hgv; have := (h.rb.lt g hgb).2; omega
  · exact t1.trans (t2.mono (fun x hx => by simp at hx; subst hx; simp [DiskD.foot]))
  · intro x hx
    simp only [DiskD.foot, List.mem_cons, List.mem_append, Option.mem_toList, Option.mem_def] at hx ⊢
    rcases hx with hx | hx | hx
    · exact .inl (.inl hx)
    · exact .inl (.inr (.inl hx))
    · rcases hn with h1 | h1
      · exact .inl (.inr (.inr (by rw [← h1]; exact hx)))
      · exact .inr (h1 x hx)
set_option maxHeartbeats 1000000 in
theorem dwrite_walk (db : Nat) (d : DiskD) (w : World) (h : DiskAt w db d) (hd : d.down = false) (hl : d.left = 0) (hc : d.cs.length < 4096) (i : Int) (s : ByteArray) (hi : 0 ≤ i) (hi2 : i < d.bs.length) (hs : s.size = 4096) :
    Calls Tryz.prog 238 #[.pointer (some ⟨db, 0, none⟩), .int .i64 i, .string s] w fun e w' => e = .returned (.int .i64 0) ∧ ∃ cv', DiskTo w w' db d { d with cv := cv', cs := d.cs ++ [(i, s)] } := by
  obtain ⟨j0, ji, jz0, jz1, jz2⟩ := info_parts infoPut8
  have HH := Lib.hid h
  have HE := Lib.hid (show d.placeE i s.size = 0 by unfold DiskD.placeE; simp [hi, hi2, hs])
  have HC := Lib.hid hc
  clear h hi hi2 hs hc
  go_enter Tryz.func238, Tryz.ntmps238
  go_wp2_with fail
  refine (dmay_walk db d _ HH.out).mono ?_
  rintro e w' ⟨rfl, rfl⟩
  rw [hd]
  go_wp2_with fail
  refine (dplace_walk db d _ HH.out i s).mono ?_
  rintro e w' ⟨rfl, rfl⟩
  rw [HE.out]
  have c1 := HH.out.blk.cell (i := 1) rfl
  obtain ⟨p, c, hcv⟩ := cv_shape HH.out
  have HCV := Lib.hid hcv
  rw [hcv] at c1
  have hlt : (d.cs.length : Int) < 4096 := by have := HC.out; omega
  clear hcv
  have hlen8 : 1 < d.cells.length := by show 1 < 5; decide
  go_wp2_with fail
  refine (dstep_calm db d _ HH.out hd hl).mono ?_
  rintro e w' ⟨rfl, rfl⟩
  have own1 := HH.out.rc
  rw [HCV.out] at own1
  go_wp2_with (first
    | ((with_reducible refine wpList_slice_new 31 129 1 ?parts [.int .i64 i, .string s] (.agg #[.int .i64 0, .string ⟨#[]⟩]) 2 24 (some 39) Tryz.underlying31 infoPut8 (by omega) (by omega) ?hgd ?ho ?hd ?hf ?_); (case hgd => rfl); (case ho => rfl); (case hd => rfl); (case hf => kernel_rfl); (intro g2 w2 l2 B2 e2 z2); (have own2 := own_below (e2.mono l2) own1))
    | (at_builtin; refine wpList_append_at _ _ 31 rfl rfl j0 (.agg #[.int .i64 0, .string ⟨#[]⟩]) 24 Tryz.underlying31 ji jz0 jz1 jz2 rfl (by decide) rfl own2 ⟨g2, 0, none⟩ 1 1 [.int .i64 i, .string s] rfl rfl (cells_add B2) (by intro v hv; simp at hv; rcases hv with rfl | rfl <;> rfl) (by unfold maxLen; omega) (by omega) (Nat.zero_le _) ?_; intro v' w3 own3 grow3 near3; have B3 := (HH.out.blk.below e2 (by have := HH.out.blk.lt; omega)).grown grow3 (by rw [← HCV.out]; exact fun he => HH.out.n2 he.symm))
    | ((with_reducible refine wpList_store_at 31 (.tmp 43) (.tmp 40) db 1 v' d.cells 124 B3 hlen8 oneSl8 (own_one8 own3) ?hgd ?ho ?hx ?hy ?_); (case hgd => rfl); (case ho => rfl); (case hx => rfl); (case hy => rfl); (intro w4 B4 o4))
    | fail)
  go_ret
  refine ⟨rfl, v', ?_⟩
  have hA := HH.out.below (e2.mono l2)
  refine DiskTo.ahead (e2.mono l2) (hA.cached (l := d.cs ++ [(i, s)]) (by rw [List.length_append, flatP_snoc]; exact own3) (by rw [HCV.out]; exact grow3) (by rw [HCV.out]; exact near3) o4 B4)
/-- A disk of noughts. -/
def zeroDisk (n : Nat) (v : Value) : DiskD := ⟨v, List.replicate n (⟨(List.replicate 4096 0).toArray⟩ : ByteArray), .slice none 0 0, [], false, 0⟩
end Go.Proofs.YtppdboadjefieaaGreat
