/- Walks of wire's part: ask, leaf, both ways (chapter 27). -/
import Derived.Test.YtkdplgcffdaoaaaWireP2
import Derived.Test.YtkdplgcffdaoaaaEqM
namespace Go.Proofs.Ytkdplgcffdaoaaa
set_option linter.unusedSimpArgs false
set_option linter.unusedVariables false
open Go Go.RowKit
set_option linter.unusedVariables false

theorem Bad.len {w w' : World} {q b n m : Nat} {t : TypeId} (h : Bad w w' q b n t) (e : n = m) : Bad w w' q b m t := e ▸ h
set_option maxHeartbeats 2000000 in
theorem ask_any (q : Nat) (s : ByteArray) (rd br : Bool) (b i : Nat) (e l : Int) (cs : List Value) (t : TypeId) (w : World) (hp : PartAt w q s rd br) (hb : Blk w b cs t) (hi : cs[i]? = some (.int .i64 e)) (hj : cs[i + 1]? = some (.int .i64 l)) (hne : b ≠ q)
    (hf : rd = false → askOk e l = true) (hs : s.size ≤ 1048500) :
    Calls Try.prog 60 #[.pointer (some ⟨q, 0, none⟩), .pointer (some ⟨b, i, none⟩)] w
      (Ends1 w q b rd br cs.length t (askF rd e l s.data.toList) (fun p => (cs.set i (.int .i64 p.1)).set (i + 1) (.int .i64 p.2))) := by
  have hf1 : rd = false → 0 ≤ e ∧ e.toNat < 256 ^ 4 := fun h => by have := hf h; simp only [askOk, epochOk, Bool.and_eq_true, decide_eq_true_eq] at this; omega
  have hf2 : rd = false → 0 ≤ l ∧ l.toNat < 256 ^ 2 := fun h => by have := hf h; simp only [askOk, epochOk, Bool.and_eq_true, decide_eq_true_eq] at this; omega
  have HF1 := Lib.hid hf1; have HF2 := Lib.hid hf2
  have HP := Lib.hid hp; have HBL := Lib.hid hb; have HI := Lib.hid hi; have HJ := Lib.hid hj
  have hlen : s.data.toList.length = s.size := rfl
  have HLEN := Lib.hid hlen
  clear hp hb hi hj hf hf1 hf2 hlen
  go_enter Try.func60, Try.ntmps60
  go_wp2_with fail
  refine (number_any q s rd br b i 4 e cs t _ HP.out HBL.out HI.out hne (by omega) (by omega) HF1.out (by omega)).mono ?_
  rintro e' w1 he
  cases h1 : numF rd 4 e s.data.toList with
  | none =>
    rw [h1] at he
    obtain ⟨rfl, hbad⟩ := he
    have HF := Lib.hid (show askF rd e l s.data.toList = none by unfold askF; simp [h1])
    have HBAD := Lib.hid hbad
    clear hbad h1
    go_wp2_with fail
    refine ⟨rfl, ?_⟩
    rw [HF.out]
    exact ⟨rfl, HBAD.out⟩
  | some p =>
    obtain ⟨e1, s1⟩ := p
    rw [h1] at he
    obtain ⟨rfl, hd⟩ := he
    obtain ⟨p1, tp1, hp1⟩ := hd.part
    have hs1 : p1.size ≤ 1048576 := by rw [tp1.size]; have := numF_len h1; have := HLEN.out; omega
    have hne2 : (cs.set i (.int .i64 e1))[i + 1]? = some (.int .i64 l) := by rw [List.getElem?_set_ne (by omega)]; exact HJ.out
    have HD := Lib.hid hd; have H1 := Lib.hid h1; have TP1 := Lib.hid tp1; have HP1 := Lib.hid hp1; have HJ1 := Lib.hid hne2
    clear hd h1 tp1 hp1 hne2
    go_wp2_with fail
    refine (number_any q p1 rd br b (i + 1) 2 l _ t _ HP1.out HD.out.blk HJ1.out hne (by omega) (by omega) HF2.out hs1).mono ?_
    rintro e' w2 he
    rw [show p1.data.toList = s1 from TP1.out] at he
    cases h2 : numF rd 2 l s1 with
    | none =>
      rw [h2] at he
      obtain ⟨rfl, hbad⟩ := he
      have HF := Lib.hid (show askF rd e l s.data.toList = none by unfold askF; simp [H1.out, h2])
      have HBAD := Lib.hid ((hbad.sofar HD.out.turned).len (m := cs.length) (by simp))
      clear hbad h2
      go_wp2_with fail
      refine ⟨rfl, ?_⟩
      rw [HF.out]
      exact ⟨rfl, HBAD.out⟩
    | some p =>
      obtain ⟨l1, s2⟩ := p
      rw [h2] at he
      obtain ⟨rfl, hd2⟩ := he
      have HF := Lib.hid (show askF rd e l s.data.toList = some ((e1, l1), s2) by unfold askF; simp [H1.out, h2])
      have HD2 := Lib.hid (hd2.sofar HD.out.turned)
      clear hd2 h2
      go_wp2_with fail
      first | go_end0 | ((try simp only [Exit.inBlock, Exit.then]); refine bodyPost_ret (results_none rfl _ _ _) rfl ?_)
      rw [HF.out]
      exact ⟨rfl, HD2.out⟩

set_option maxHeartbeats 2000000 in
theorem leaf_any (q : Nat) (s : ByteArray) (rd br : Bool) (b i : Nat) (x : LeafD) (cs : List Value) (t : TypeId) (w : World) (hp : PartAt w q s rd br) (hb : Blk w b cs t) (hi : cs[i]? = some (.int .i64 x.lba)) (hj : cs[i + 1]? = some (.string x.hash)) (hne : b ≠ q)
    (hf : rd = false → leafOk x = true) (hs : s.size ≤ 1048500) :
    Calls Try.prog 75 #[.pointer (some ⟨q, 0, none⟩), .pointer (some ⟨b, i, none⟩)] w
      (Ends1 w q b rd br cs.length t (leafF rd x s.data.toList) (fun y => (cs.set i (.int .i64 y.lba)).set (i + 1) (.string y.hash))) := by
  have hf1 : rd = false → x ≠ LeafD.zero → 0 ≤ x.lba ∧ x.lba.toNat < 256 ^ 2 := fun h hz => by
    have := hf h
    simp only [leafOk, leafSaid, Bool.or_eq_true, Bool.and_eq_true, decide_eq_true_eq] at this
    rcases this with h | h
    · exact absurd h hz
    · omega
  have hf2 : rd = false → x.hash.size ≤ 1048576 := fun h => by
    have := hf h
    simp only [leafOk, leafSaid, Bool.or_eq_true, Bool.and_eq_true, decide_eq_true_eq] at this
    rcases this with h | h
    · rw [h]; decide
    · omega
  have HF1 := Lib.hid hf1; have HF2 := Lib.hid hf2
  have hr : w.rangeAt b i x.cells := by
    intro j u hu
    match j, hu with
    | 0, hu => simp only [LeafD.cells, List.getElem?_cons_zero, Option.some.injEq] at hu; subst hu; exact hb.cell hi
    | 1, hu => simp only [LeafD.cells, List.getElem?_cons_succ, List.getElem?_cons_zero, Option.some.injEq] at hu; subst hu; exact hb.cell hj
    | j + 2, hu => simp [LeafD.cells] at hu
  have HR := Lib.hid hr
  have HP := Lib.hid hp; have HBL := Lib.hid hb; have HI := Lib.hid hi; have HJ := Lib.hid hj
  have hlen : s.data.toList.length = s.size := rfl
  have HLEN := Lib.hid hlen
  clear hp hb hi hj hf hf1 hf2 hlen hr
  obtain ⟨z, hz⟩ : ∃ z, z = decide (x = LeafD.zero) := ⟨_, rfl⟩
  have HZ := Lib.hid hz; clear hz
  have hnz : (!z) = decide (x ≠ LeafD.zero) := by rw [HZ.out]; by_cases h : x = LeafD.zero <;> simp [h]
  have HNZ := Lib.hid hnz; clear hnz
  go_enter Try.func75, Try.ntmps75
  go_wp2_with (first
    | ((with_reducible refine wpList_load_met 29 (.tmp 6) b i x.cells _ (some 7) HR.out Try.underlying29 rfl rsizeLeaf ?hg ?ho ?hds ?hx ?_); (case hg => rfl); (case ho => rfl); (case hds => rfl); (case hx => rfl))
    | (((with_reducible refine wpList_neq_agg 29 29 (.tmp 7) (.tmp 8) x.cells.toArray LeafD.zero.cells.toArray _ (some 9) guardLeaf (eqLeaf x LeafD.zero _) ?hgd ?ho ?hd ?hx ?hy ?_); (case hgd => rfl); (case ho => rfl); (case hd => rfl); (case hx => rfl); (case hy => rfl)); rw [← HZ.out])
    | ((with_reducible refine wpList_alloc_one 4 (.bool false) (by intro w; kernel_rfl) rfl (some 4) ?hgd ?ho ?hd ?_); (case hgd => rfl); (case ho => rfl); (case hd => rfl); (intro b2 w2 l2 B2 e2 z2))
    | ((with_reducible refine wpList_store_at 4 (.tmp 4) (.tmp 9) b2 0 (.bool (!z)) _ _ B2 (by simp) (by kernel_rfl) rfl ?hgd ?ho ?hx ?hy ?_); (case hgd => rfl); (case ho => rfl); (case hx => rfl); (case hy => rfl); (intro w3 B3 o3))
    | fail)
  have BB := Lib.hid (o3.blk (HBL.out.below e2 (Nat.lt_of_lt_of_le HBL.out.lt l2)) (by have := HBL.out.lt; omega))
  have PP : Hid (PartAt w3 q s rd br) := Lib.hid (o3.blk (HP.out.below e2 (Nat.lt_of_lt_of_le HP.out.lt l2)) (by have := HP.out.lt; omega))
  have T0 : Hid (Turned [q, b] w w3) := Lib.hid ⟨by rw [o3.os, e2.os], by rw [o3.tape, e2.tape], by rw [o3.output, e2.output], by rw [o3.size]; exact e2.size, fun k hk hn => by rw [o3.block k (by omega), e2.block k (by omega)]⟩
  have hbq : b2 ≠ q := by have := HP.out.lt; omega
  have hbb : b ≠ b2 := by have := HBL.out.lt; omega
  have HN := Lib.hid B3; have hl2 := Lib.hid l2
  clear B2 B3 o3 e2 z2 l2
  refine (flag_any q s rd br b2 0 (!z) _ 4 _ PP.out HN.out rfl hbq (by omega)).mono ?_
  rintro e' w4 he
  rw [HNZ.out] at he
  cases h1 : flagF rd (decide (x ≠ LeafD.zero)) s.data.toList with
  | none =>
    rw [h1] at he
    obtain ⟨rfl, hbad⟩ := he
    have HF := Lib.hid (show leafF rd x s.data.toList = none by unfold leafF; rw [h1])
    have HBAD : Hid (Bad w w4 q b cs.length t) := Lib.hid ⟨⟨cs, rfl, hbad.turned.blk BB.out (by simp; omega)⟩, T0.out.over hbad.turned hl2.out⟩
    clear hbad h1
    go_wp2_with fail
    refine ⟨rfl, ?_⟩
    rw [HF.out]
    exact ⟨rfl, HBAD.out⟩
  | some p =>
    obtain ⟨g, s1⟩ := p
    rw [h1] at he
    obtain ⟨rfl, hd⟩ := he
    obtain ⟨p1, tp1, hp1⟩ := hd.part
    have hs1 : p1.size ≤ 1048501 := by rw [tp1.size]; have := flagF_len h1; have := HLEN.out; omega
    have cN : w4.cell? ⟨b2, 0, none⟩ = some (.bool g) := hd.blk.cell rfl
    have B4 := Lib.hid (hd.turned.blk BB.out (by simp; omega))
    have T4 := Lib.hid (T0.out.over hd.turned hl2.out)
    have H1 := Lib.hid h1; have TP1 := Lib.hid tp1; have HP1 := Lib.hid hp1
    clear hd h1 tp1 hp1
    cases g with
    | false =>
      have HF := Lib.hid (show leafF rd x s.data.toList = some (x, s1) by unfold leafF; rw [H1.out])
      go_wp2_with fail
      first | go_end0 | ((try simp only [Exit.inBlock, Exit.then]); refine bodyPost_ret (results_none rfl _ _ _) rfl ?_)
      rw [HF.out]
      refine ⟨rfl, ⟨p1, TP1.out, HP1.out⟩, ?_, T4.out⟩
      show Blk w4 b ((cs.set i (.int .i64 x.lba)).set (i + 1) (.string x.hash)) t
      rw [set_self HI.out, set_self HJ.out]
      exact B4.out
    | true =>
      have hz0 : rd = false → x ≠ LeafD.zero := fun h => by
        have h1 := H1.out
        rw [h, flagF_w] at h1
        simp only [Option.some.injEq, Prod.mk.injEq, decide_eq_true_eq] at h1
        exact h1.1
      have HF1' := Lib.hid (fun h => HF1.out h (hz0 h))
      clear hz0
      go_wp2_with fail
      refine (number_any q p1 rd br b i 2 x.lba cs t _ HP1.out B4.out HI.out hne (by omega) (by omega) HF1'.out (by omega)).mono ?_
      rintro e' w5 he
      rw [show p1.data.toList = s1 from TP1.out] at he
      cases h2 : numF rd 2 x.lba s1 with
      | none =>
        rw [h2] at he
        obtain ⟨rfl, hbad⟩ := he
        have HF := Lib.hid (show leafF rd x s.data.toList = none by unfold leafF; simp only [H1.out, h2])
        have HBAD := Lib.hid (hbad.sofar T4.out)
        clear hbad h2
        go_wp2_with fail
        refine ⟨rfl, ?_⟩
        rw [HF.out]
        exact ⟨rfl, HBAD.out⟩
      | some p =>
        obtain ⟨l1, s2⟩ := p
        rw [h2] at he
        obtain ⟨rfl, hd⟩ := he
        obtain ⟨p2, tp2, hp2⟩ := hd.part
        have hs2 : p2.size ≤ 1048576 := by rw [tp2.size]; have := numF_len h2; have h3 := (show Txt p1 s1 from TP1.out).size; omega
        have hne2 : (cs.set i (.int .i64 l1))[i + 1]? = some (.string x.hash) := by rw [List.getElem?_set_ne (by omega)]; exact HJ.out
        have HD := Lib.hid (hd.sofar T4.out); have H2 := Lib.hid h2; have TP2 := Lib.hid tp2; have HP2 := Lib.hid hp2; have HJ1 := Lib.hid hne2
        clear hd h2 tp2 hp2 hne2
        go_wp2_with fail
        refine (wide_any q p2 rd br b (i + 1) x.hash _ t _ HP2.out HD.out.blk HJ1.out hne hs2 HF2.out).mono ?_
        rintro e' w6 he
        rw [show p2.data.toList = s2 from TP2.out] at he
        cases h3 : strF rd x.hash s2 with
        | none =>
          rw [h3] at he
          obtain ⟨rfl, hbad⟩ := he
          have HF := Lib.hid (show leafF rd x s.data.toList = none by unfold leafF; simp only [H1.out, H2.out, h3])
          have HBAD := Lib.hid ((hbad.sofar HD.out.turned).len (m := cs.length) (by simp))
          clear hbad h3
          go_wp2_with fail
          refine ⟨rfl, ?_⟩
          rw [HF.out]
          exact ⟨rfl, HBAD.out⟩
        | some p =>
          obtain ⟨y, s3⟩ := p
          rw [h3] at he
          obtain ⟨rfl, hd2⟩ := he
          have HF := Lib.hid (show leafF rd x s.data.toList = some (⟨l1, y⟩, s3) by unfold leafF; simp only [H1.out, H2.out, h3])
          have HD2 := Lib.hid (hd2.sofar HD.out.turned)
          clear hd2 h3
          go_wp2_with fail
          first | go_end0 | ((try simp only [Exit.inBlock, Exit.then]); refine bodyPost_ret (results_none rfl _ _ _) rfl ?_)
          rw [HF.out]
          exact ⟨rfl, HD2.out⟩
end Go.Proofs.Ytkdplgcffdaoaaa
