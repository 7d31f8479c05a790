/- Walk of wire.read (chapter 27): the message that bytes are read as; what is read too far is a panic, that is recovered. -/
import Derived.Test.YtkdplgcffdaoaaaG15
import Derived.Test.YtkdplgcffdaoaaaG18
import Derived.Defers
import Derived.Recover
import Derived.Deep.RegionHeld3
import Derived.Deep.MidRow
namespace Go.Proofs.Ytkdplgcffdaoaaa
set_option linter.unusedSimpArgs false
set_option linter.unusedVariables false
open Go Go.RowKit
set_option linter.unusedVariables false

theorem rsizeM0 : (Try.prog.info? 39).map (·.size) = some mzero.length := by kernel_rfl
theorem mzero_one : ∀ v ∈ mzero, v.oneCell' = true := by decide
set_option maxRecDepth 100000 in
set_option maxHeartbeats 4000000 in
theorem rd_panicking (bm bo : Nat) (cs : List Value) (x : Bool) (w : World) (hl : cs.length = 41) (HM : Blk w bm cs 39) (HO : Blk w bo [.bool x] 4) (hne : bm ≠ bo) :
    CallsD Try.prog 37 #[.pointer (some ⟨bm, 0, none⟩), .pointer (some ⟨bo, 0, none⟩)] (.panicking shortP) w fun e u' w' =>
      e = .returned (.tuple #[]) ∧ u' = .panicking [{ v := .iface 116 (.agg #[]), recovered := true }] ∧ Blk w' bm mzero 39 ∧ Blk w' bo [.bool false] 4 ∧ Turned [bm, bo] w w' := by
  have hl2 : mzero.length = cs.length := by rw [hl]; rfl
  refine callsD_of_wpS Try.func37 rfl fun c₀ cs' hu => ?_
  apply wpS_seq
  apply wpS_region
  simp [wpOpsS, go_sem, recoverD, hu, shortP, Try.ntmps37, Exit.thenS]
  apply wpS_seq
  apply wpS_region
  simp [wpOpsS, go_sem, Exit.thenS]
  refine wpS_cond (t := true) (by simp [Act.eval, Array.replicate]) ?_
  simp only [if_true]
  refine wpS_of_wp ?_
  go_wp2_with (first
    | ((with_reducible refine wpList_build_eq 39 ?parts mzero ?hg ?ho ?hf ?_); (case hg => rfl); (case ho => rfl); (case hf => kernel_rfl))
    | ((with_reducible refine wpList_store_new 39 (.tmp 0) (.tmp 6) bm cs mzero 39 HM hl2 rsizeM0 mzero_one ?hgd ?ho ?hx ?hy ?_); (case hgd => rfl); (case ho => rfl); (case hx => rfl); (case hy => rfl); (intro w1 B1 o1); have O1 := o1.blk HO hne.symm)
    | ((with_reducible refine wpList_store_at 4 (.tmp 1) (.const (.bool false)) bo 0 (.bool false) _ _ O1 (by simp) (by kernel_rfl) rfl ?hgd ?ho ?hx ?hy ?_); (case hgd => rfl); (case ho => rfl); (case hx => rfl); (case hy => rfl); (intro w2 B2 o2); have M2 := o2.blk B1 hne)
    | fail)
  simp [bodyPostS, results, Try.results37]
  exact ⟨M2, B2, only2 o1 o2⟩
set_option maxRecDepth 100000 in
set_option maxHeartbeats 4000000 in
theorem rd_returning (bm bo : Nat) (w : World) :
    CallsD Try.prog 37 #[.pointer (some ⟨bm, 0, none⟩), .pointer (some ⟨bo, 0, none⟩)] .returning w fun e u' w' => e = .returned (.tuple #[]) ∧ u' = .returning ∧ w' = w := by
  refine callsD_of_wpS Try.func37 rfl fun c₀ cs' hu => ?_
  apply wpS_seq
  apply wpS_region
  simp [wpOpsS, go_sem, recoverD, hu, Try.ntmps37, Exit.thenS]
  apply wpS_seq
  apply wpS_region
  simp [wpOpsS, go_sem, Exit.thenS]
  refine wpS_cond (t := false) (by simp [Act.eval, Array.replicate]) ?_
  simp only [Bool.false_eq_true, if_false]
  refine wpS_of_wp (wp_skip ?_)
  cases c₀
  simp_all [bodyPostS, results, Try.results37]
/-- How read ends: what is read lies in none of these blocks. -/
def ReadEnd (F : List Nat) (s : List UInt8) (e : Ending) (w' : World) : Prop :=
  (∃ m u l, readF s = some (m, []) ∧ e = .returned (.tuple #[m.v u l, .bool true]) ∧ PathIn F w' u m.told.up ∧ PathIn F w' l m.told.left) ∨
  (∃ cs, (∀ m, readF s ≠ some (m, [])) ∧ e = .returned (.tuple #[.agg cs, .bool false]) ∧ cs.size = 41 ∧ ∀ v ∈ cs.toList, v.oneCell' = true)
theorem Turned.trans' {S T : List Nat} {u v w : World} (h : Turned S u v) (k : Turned T v w) : Turned (S ++ T) u w := (h.mono (fun x hx => List.mem_append_left _ hx)).trans (k.mono (fun x hx => List.mem_append_right _ hx))
theorem PathIn.notBool {S : List Nat} {w : World} {v : Value} {xs : List ByteArray} {bo : Nat} {x : Bool} {t : TypeId} (h : PathIn S w v xs) (hO : Blk w bo [.bool x] t) : PathIn (bo :: S) w v xs := by
  rcases h with h1 | ⟨g, o, c, h1, h2, h3, h4⟩
  · exact .inl h1
  · by_cases hx : xs = []
    · exact .inl ⟨hx, some ⟨g, o, none⟩, c, by rw [h1, hx]; rfl⟩
    · refine .inr ⟨g, o, c, h1, h2, fun hm => ?_, h4⟩
      rcases List.mem_cons.1 hm with e | hm
      · obtain ⟨y, hy⟩ : ∃ y, xs[0]? = some y := ⟨_, List.getElem?_eq_getElem (List.length_pos_iff.2 hx)⟩
        have h5 := h4 0 y hy
        rw [e, hO.cell?] at h5
        match o, h5 with
        | 0, h5 => simp at h5
        | o + 1, h5 => simp at h5
      · exact h3 hm
theorem results_cc {fn : Func} {p q : Tmp} (h : fn.results = #[.cell p 39, .cell q 4]) (tmps : Array Value) (w : World) {bm bo : Nat} {cs : List Value} {x : Bool} (hM : Blk w bm cs 39) (hO : Blk w bo [.bool x] 4)
    (hl : some 41 = some cs.length) (hp : tmps.getD p undef = .pointer (some ⟨bm, 0, none⟩)) (hq : tmps.getD q undef = .pointer (some ⟨bo, 0, none⟩)) :
    (results fn tmps).run Try.prog w = .ok (.tuple #[.agg cs.toArray, .bool x]) w := by
  have hi : (Try.prog.info? 39).map (·.size) = some cs.length := by rw [← hl]; kernel_rfl
  have e := run_loadVar_mid (P := Try.prog) w bm 0 39 cs _ hM.range Try.underlying39 rfl hi
  have c0 := hO.cell (i := 0) rfl
  have e2 : (loadVar 4 ⟨bo, 0, none⟩).run Try.prog w = .ok (.bool x) w := by
    simp [go_sem, loadVar, Try.underlying4, c0]
  have e0 : (results fn tmps).run Try.prog w = ((asAddr (tmps.getD p undef)).run Try.prog w).andThen fun a w₁ => ((loadVar 39 a).run Try.prog w₁).andThen fun y w₂ => ((asAddr (tmps.getD q undef)).run Try.prog w₂).andThen fun a' w₃ => ((loadVar 4 a').run Try.prog w₃).andThen fun z w₄ => .ok (.tuple #[y, z]) w₄ := by
    simp only [results, h]
    simp [Sem.run_bind]
  rw [e0, hp, hq]
  simp only [asAddr, Sem.run_pure, Result.andThen_ok, e, e2]
set_option maxRecDepth 100000 in
set_option maxHeartbeats 8000000 in
theorem read_walk (F : List Nat) (s : ByteArray) (w : World) (hs : s.size ≤ 1000000) (hF : ∀ x ∈ F, x < w.heap.size) :
    Calls Try.prog 22 #[.string s] w fun e w' => ReadEnd F s.data.toList e w' ∧ Below w.heap.size w w' := by
  have HFF := Lib.hid hF; clear hF
  have hmf := hmakef3
  go_enter_defers Try.func22, Try.ntmps22
  go_wp2_with (first
    | ((with_reducible refine wpList_alloc_new 39 mzero zeroMsgB (some 2) ?hgd ?ho ?hd ?_); (case hgd => rfl); (case ho => rfl); (case hd => rfl); (intro bm w1 l1 B1 e1 z1))
    | ((with_reducible refine wpList_alloc_one 4 (.bool false) (by intro w; kernel_rfl) rfl (some 3) ?hgd ?ho ?hd ?_); (case hgd => rfl); (case ho => rfl); (case hd => rfl); (intro bo w2 l2 B2 e2 z2); have M2 := B1.below e2 (Nat.lt_of_lt_of_le B1.lt l2))
    | ((with_reducible refine wpList_box_new 75 (.tmp 7) [.string s, .bool true, .bool false] (some 8) ?hgd ?ho ?hd ?hx ?_); (case hgd => rfl); (case ho => rfl); (case hd => rfl); (case hx => rfl); (intro q w3 l3 P3 e3 z3); have M3 := M2.below e3 (Nat.lt_of_lt_of_le M2.lt l3); have O3 := B2.below e3 (Nat.lt_of_lt_of_le B2.lt l3))
    | fail)
  have hmo : bm ≠ bo := by have := B1.lt; omega
  have hmq : bm ≠ q := by have := M2.lt; omega
  have hoq : bo ≠ q := by have := B2.lt; omega
  have f1 : w.heap.size ≤ bm := l1
  have f2 : w.heap.size ≤ bo := by have := e1.size; omega
  have f3 : w.heap.size ≤ q := by have := e1.size; have := e2.size; omega
  have HB3 := Lib.hid (show Below w.heap.size w w3 from ((e1.mono l1).trans (e2.mono f2)).trans (e3.mono f3))
  have T0 : Turned [q, bm] w3 w3 := Turned.refl _ _
  clear B1 B2 M2 e1 e2 e3 l1 l2 l3 z1 z2 z3
  have O3' := Lib.hid O3
  clear O3
  refine (number_any q s true false bm 0 1 0 mzero 39 w3 P3 M3 rfl hmq (by omega) (by omega) (fun h => by cases h) (by omega)).mono ?_
  rintro e w4 he
  cases hn : numF true 1 0 s.data.toList with
  | none =>
    have HF : Hid (∀ m, readF s.data.toList ≠ some (m, [])) := Lib.hid (fun m h => by unfold readF at h; rw [hn] at h; cases h)
    rw [hn] at he
    obtain ⟨rfl, hbad⟩ := he
    obtain ⟨⟨cs', hcl, HMb⟩, hbt⟩ := hbad
    have O4 := hbt.blk O3'.out (by simp [hmo.symm, hoq])
    have HBAD := Lib.hid (show cs'.length = 41 ∧ Blk w4 bm cs' 39 ∧ Blk w4 bo [.bool false] 4 ∧ Turned [q, bm] w3 w4 from ⟨hcl, HMb, O4, hbt⟩)
    clear hn hbt O4 HMb hcl
    go_wp2_with fail
    refine leaves_cons (f := 37) (args := #[.pointer (some ⟨bm, 0, none⟩), .pointer (some ⟨bo, 0, none⟩)]) (by simp) (by simp [go_sem]) ?_
    refine (rd_panicking bm bo _ _ _ HBAD.out.1 HBAD.out.2.1 HBAD.out.2.2.1 hmo).mono ?_
    rintro e u' w9 ⟨rfl, rfl, M9, O9, T9⟩
    refine ⟨_, results_cc rfl _ w9 M9 O9 rfl rfl rfl, .inr ⟨_, HF.out, rfl, rfl, by simpa using mzero_one⟩, ?_⟩
    exact (HBAD.out.2.2.2.trans' T9).below HB3.out (fun x hx => by have := List.mem_append.1 hx; simp only [List.mem_cons, List.mem_nil_iff, or_false] at this; omega) HB3.out.size
  | some p =>
    obtain ⟨k, s1⟩ := p
    rw [hn] at he
    obtain ⟨rfl, hdn⟩ := he
    obtain ⟨p1, tp1, P4⟩ := hdn.part
    have M4 : Blk w4 bm (({ MsgD.zero with kind := k } : MsgD).cells (.slice none 0 0) (.slice none 0 0)) 39 := hdn.blk
    have O4 := Lib.hid (hdn.turned.blk O3'.out (by simp [hmo.symm, hoq]))
    have HT4 := Lib.hid hdn.turned
    have hp1 : p1.size ≤ 1000000 := by
      rw [tp1.size]
      have := numF_len hn
      unfold numF at hn
      rw [if_pos rfl] at hn
      split at hn
      · cases hn
      · simp only [Option.some.injEq, Prod.mk.injEq] at hn
        rw [← hn.2, List.length_drop]
        have : s.data.toList.length = s.size := rfl
        omega
    have hrd : readF s.data.toList = partsF true false { MsgD.zero with kind := k } p1.data.toList := by
      unfold readF
      rw [hn, show p1.data.toList = s1 from tp1]
    have HRD := Lib.hid hrd
    clear hrd hn hdn tp1 O3' M3 P3
    go_wp2_with fail
    refine (parts_any (bo :: F) q p1 true false bm { MsgD.zero with kind := k } (.slice none 0 0) (.slice none 0 0) w4 P4 M4 hmq (fun _ x hx => by rcases List.mem_cons.1 hx with e | hx; rw [e]; exact O4.out.lt; have := HFF.out x hx; have := HB3.out.size; have := HT4.out.size; omega) (PathIn.nil _ _) (PathIn.nil _ _) (fun _ => ⟨⟨rfl, rfl⟩, ⟨rfl, rfl⟩⟩) (fun h => by cases h) hp1).mono ?_
    rintro e w5 he
    cases hn : partsF true false { MsgD.zero with kind := k } p1.data.toList with
    | none =>
      have HF : Hid (∀ m, readF s.data.toList ≠ some (m, [])) := Lib.hid (fun m h => by rw [HRD.out, hn] at h; cases h)
      rw [hn] at he
      obtain ⟨rfl, hbad⟩ := he
      obtain ⟨⟨cs', hcl, HMb⟩, hbt⟩ := hbad
      have O5 := hbt.blk O4.out (by simp [hmo.symm, hoq])
      have HBAD := Lib.hid (show cs'.length = 41 ∧ Blk w5 bm cs' 39 ∧ Blk w5 bo [.bool false] 4 ∧ Turned [q, bm] w3 w5 from ⟨hcl, HMb, O5, HT4.out.trans hbt⟩)
      clear hn hbt O5 HMb hcl M4 P4
      go_wp2_with fail
      refine leaves_cons (f := 37) (args := #[.pointer (some ⟨bm, 0, none⟩), .pointer (some ⟨bo, 0, none⟩)]) (by simp) (by simp [go_sem]) ?_
      refine (rd_panicking bm bo _ _ _ HBAD.out.1 HBAD.out.2.1 HBAD.out.2.2.1 hmo).mono ?_
      rintro e u' w9 ⟨rfl, rfl, M9, O9, T9⟩
      refine ⟨_, results_cc rfl _ w9 M9 O9 rfl rfl rfl, .inr ⟨_, HF.out, rfl, rfl, by simpa using mzero_one⟩, ?_⟩
      exact (HBAD.out.2.2.2.trans' T9).below HB3.out (fun x hx => by have := List.mem_append.1 hx; simp only [List.mem_cons, List.mem_nil_iff, or_false] at this; omega) HB3.out.size
    | some pr =>
      obtain ⟨m, s2⟩ := pr
      rw [hn] at he
      obtain ⟨rfl, u, l, hdn, hu, hl⟩ := he
      obtain ⟨p2, tp2, P5⟩ := hdn.part
      have M5 : Blk w5 bm (m.cells u l) 39 := hdn.blk
      have O5 := Lib.hid (hdn.turned.blk O4.out (by simp [hmo.symm, hoq]))
      have HT5 := Lib.hid (HT4.out.trans hdn.turned)
      have HU := Lib.hid (show PathIn (q :: bm :: bo :: F) w5 u m.told.up ∧ PathIn (q :: bm :: bo :: F) w5 l m.told.left from ⟨hu, hl⟩)
      have hr2 : readF s.data.toList = some (m, s2) := by rw [HRD.out, hn]
      have HRD2 := Lib.hid hr2
      have TP2 := Lib.hid tp2
      have HM5 := Lib.hid M5.drew
      have HP5 := Lib.hid (show PartAt w5.drew q p2 true false from Blk.drew P5)
      clear hn hdn hr2 tp2 M4 P4 hu hl O4 HT4 M5 P5
      go_wp2_with fail
      have hS0 : (fun w' => w'.rangeAt bm 0 (m.cells u l) ∧ w'.cell? ⟨q, 0, none⟩ = some (.string p2)) w5.drew := ⟨HM5.out.range, HP5.out.c0⟩
      refine wp_region_noPanic ?_
      refine wp_region_held_drew (S := fun w' => w'.rangeAt bm 0 (m.cells u l) ∧ w'.cell? ⟨q, 0, none⟩ = some (.string p2)) (by kernel_rfl) (hS0) (fun hHeld => ?_)
      clear hS0
      refine wpAnyH_take (i := 0) (v := .agg (m.cells u l).toArray) rfl (by kernel_rfl) (by kernel_rfl) (by kernel_rfl) (fun _ _ _ h => h) (yieldsIf_load_mid (by rfl) 39 (.tmp 2) rfl bm 0 rfl (m.cells u l) _ (fun w h => h.1) Try.underlying39 rfl sizeMsg) (by assumption) ?_
      (try simp only [Act.put, Array.getInternal_eq_getElem, List.getElem_toArray, List.getElem_cons_succ, List.getElem_cons_zero, List.setIfInBounds_toArray, List.set_cons_zero, List.set_cons_succ])
      refine wpAnyH_take (i := 1) (v := ?_) rfl (by kernel_rfl) (by kernel_rfl) (by kernel_rfl) (fun _ _ _ h => h) (Or.inl ⟨by rfl, ?_⟩) (by assumption) ?_
      rotate_left
      · intro w hSw; (try dsimp only at hSw); go_simp; first | done | with_reducible rfl
      (try simp only [Act.put, Array.getInternal_eq_getElem, List.getElem_toArray, List.getElem_cons_succ, List.getElem_cons_zero, List.setIfInBounds_toArray, List.set_cons_zero, List.set_cons_succ])
      refine wpAnyH_take (i := 2) (v := ?_) rfl (by kernel_rfl) (by kernel_rfl) (by kernel_rfl) (fun _ _ _ h => h) (Or.inl ⟨by rfl, ?_⟩) (by assumption) ?_
      rotate_left
      · intro w hSw; (try dsimp only at hSw); go_simp; first | done | with_reducible rfl
      (try simp only [Act.put, Array.getInternal_eq_getElem, List.getElem_toArray, List.getElem_cons_succ, List.getElem_cons_zero, List.setIfInBounds_toArray, List.set_cons_zero, List.set_cons_succ])
      refine wpAnyH_take (i := 3) (v := ?_) rfl (by kernel_rfl) (by kernel_rfl) (by kernel_rfl) (fun _ _ _ h => h) (Or.inl ⟨by rfl, ?_⟩) (by assumption) ?_
      rotate_left
      · intro w hSw; (try dsimp only at hSw); go_simp; first | done | with_reducible rfl
      (try simp only [Act.put, Array.getInternal_eq_getElem, List.getElem_toArray, List.getElem_cons_succ, List.getElem_cons_zero, List.setIfInBounds_toArray, List.set_cons_zero, List.set_cons_succ])
      refine wpAnyH_take (i := 4) (v := ?_) rfl (by kernel_rfl) (by kernel_rfl) (by kernel_rfl) (fun _ _ _ h => h) (Or.inl ⟨by rfl, ?_⟩) (by assumption) ?_
      rotate_left
      · intro w hSw; (try dsimp only at hSw); go_simp; first | done | with_reducible rfl
      (try simp only [Act.put, Array.getInternal_eq_getElem, List.getElem_toArray, List.getElem_cons_succ, List.getElem_cons_zero, List.setIfInBounds_toArray, List.set_cons_zero, List.set_cons_succ])
      refine wpAnyH_take (i := 5) (v := ?_) rfl (by kernel_rfl) (by kernel_rfl) (by kernel_rfl) (fun _ _ _ h => h) (Or.inl ⟨by rfl, ?_⟩) (by assumption) ?_
      rotate_left
      · intro w hSw; (try dsimp only at hSw); go_simp; first | done | with_reducible rfl
      (try simp only [Act.put, Array.getInternal_eq_getElem, List.getElem_toArray, List.getElem_cons_succ, List.getElem_cons_zero, List.setIfInBounds_toArray, List.set_cons_zero, List.set_cons_succ])
      obtain ⟨ua, uc, hue⟩ := PathIn.shape HU.out.1
      obtain ⟨la, lc, hle⟩ := PathIn.shape HU.out.2
      have one6 : ∀ v ∈ m.cells u l, v.oneCell' = true := mcells_one ⟨ua, uc, hue⟩ ⟨la, lc, hle⟩
      have A6 : Blk (w5.drew.setCells bm 0 (m.cells u l).toArray.toList) bm (m.cells u l) 39 := by simpa using HM5.out.setAll (m.cells u l) rfl
      have A7 : Only bm w5.drew (w5.drew.setCells bm 0 (m.cells u l).toArray.toList) := by simpa using (Only.refl bm w5.drew).setCells (m.cells u l) 0
      refine wpAnyH_ready (rs := [6]) (by kernel_rfl) (by simp) ?_
      refine AllReadyH.cons rfl (fun K hK => ?_) AllReadyH.nil
      rw [if_pos (by rfl)]
      refine wp_store_mid 39 (.tmp 2) (.tmp 14) rfl bm 0 (m.cells u l).toArray rfl rfl (there_part HM5.out (by simp)) (by simpa using sizeMsg) (all_oneCell_toArray one6) ?_
      generalize (w5.drew.setCells bm 0 (m.cells u l).toArray.toList) = w6 at A6 A7 ⊢
      have P6 : PartAt w6 q p2 true false := A7.blk HP5.out hmq.symm
      have O6 : Blk w6 bo [.bool false] 4 := A7.blk O5.out.drew hmo.symm
      refine hK.out _ _ ⟨A6.range, P6.c0⟩ (fun hHeld2 => ?_)
      clear hK K hHeld
      have hHeld := hHeld2
      clear hHeld2
      (try simp only [Act.put, Array.getInternal_eq_getElem, List.getElem_toArray, List.getElem_cons_succ, List.getElem_cons_zero, List.setIfInBounds_toArray, List.set_cons_zero, List.set_cons_succ])
      have c0 := O6.cell (i := 0) rfl
      have z0 := Blk.free O6 0
      refine wpAnyH_ready (rs := [7]) (by kernel_rfl) (by simp) ?_
      refine AllReadyH.cons rfl (fun K hK => ?_) AllReadyH.nil
      go_simp
      have A8 := O6.set 0 (.bool p2.toList.isEmpty)
      have A9 : Only bo w6 (w6.setCell ⟨bo, 0, none⟩ (.bool p2.toList.isEmpty)) := (Only.refl bo w6).setCell 0 _
      clear c0 z0
      generalize (w6.setCell ⟨bo, 0, none⟩ (.bool p2.toList.isEmpty)) = w7 at A8 A9 ⊢
      have M7 := A9.blk A6 hmo
      have P7 : PartAt w7 q p2 true false := A9.blk P6 hoq.symm
      refine hK.out _ _ ⟨M7.range, P7.c0⟩ (fun hHeld2 => ?_)
      clear hK K hHeld
      have hHeld := hHeld2
      clear hHeld2
      (try simp only [Act.put, Array.getInternal_eq_getElem, List.getElem_toArray, List.getElem_cons_succ, List.getElem_cons_zero, List.setIfInBounds_toArray, List.set_cons_zero, List.set_cons_succ])
      refine wpAnyH_done (by kernel_rfl) ?_ _
      refine NoPanic.normal ?_
      clear hHeld
      have HT7 : Turned [q, bm, bo] w3 w7 := ⟨by rw [A9.os, A7.os]; exact HT5.out.os, by rw [A9.tape, A7.tape]; exact HT5.out.tape, by rw [A9.output, A7.output]; exact HT5.out.output, by rw [A9.size, A7.size]; exact HT5.out.size, fun i hi hn => by
        simp only [List.mem_cons, List.mem_nil_iff, or_false, not_or] at hn
        rw [A9.block i hn.2.2, A7.block i hn.2.1]
        exact HT5.out.block i hi (by simp only [List.mem_cons, List.mem_nil_iff, or_false, not_or]; exact ⟨hn.1, hn.2.1⟩)⟩
      have HB7 := HT7.below HB3.out (fun x hx => by simp only [List.mem_cons, List.mem_nil_iff, or_false] at hx; omega) HB3.out.size
      have HM7 := Lib.hid M7
      have HO7 := Lib.hid A8
      have HT57 : Turned [bo, q, bm] w5 w7 := ⟨by rw [A9.os, A7.os]; rfl, by rw [A9.tape, A7.tape]; rfl, by rw [A9.output, A7.output]; rfl, by rw [A9.size, A7.size]; exact Nat.le_refl _, fun i hi hn => by
        simp only [List.mem_cons, List.mem_nil_iff, or_false, not_or] at hn
        rw [A9.block i hn.1, A7.block i hn.2.2]; rfl⟩
      have HT58 : Turned (q :: bm :: bo :: F) w5 w7 := HT57.mono (by intro x hx; simp only [List.mem_cons, List.mem_nil_iff, or_false] at hx ⊢; rcases hx with h | h | h <;> simp [h])
      have HPU : PathIn F w7 u m.told.up := (HU.out.1.turned HT58).sub (fun x hx => by simp [hx])
      have HPL : PathIn F w7 l m.told.left := (HU.out.2.turned HT58).sub (fun x hx => by simp [hx])
      clear HT58
      have HPP := Lib.hid (And.intro HPU HPL)
      have HBB := Lib.hid HB7
      have HONE := Lib.hid one6
      clear HPU HPL HB7 HT57 HT7 A6 A7 A8 A9 M7 P7 P6 O6 one6
      go_wp2_with fail
      refine leaves_cons (f := 37) (args := #[.pointer (some ⟨bm, 0, none⟩), .pointer (some ⟨bo, 0, none⟩)]) (by simp) (by simp [go_sem]) ?_
      refine (rd_returning bm bo _).mono ?_
      rintro e u' w9 ⟨rfl, rfl, rfl⟩
      refine ⟨_, results_cc rfl _ _ HM7.out HO7.out rfl rfl rfl, ?_, HBB.out⟩
      cases hs2 : p2.toList.isEmpty with
      | true =>
        have e2 : s2 = [] := by
          rw [← show p2.data.toList = s2 from TP2.out]
          have := List.isEmpty_iff.1 hs2
          rw [Lib.toList_data] at this
          exact this
        exact .inl ⟨m, u, l, by rw [HRD2.out, e2], rfl, HPP.out.1, HPP.out.2⟩
      | false =>
        refine .inr ⟨_, fun m' h => ?_, rfl, rfl, by simpa using HONE.out⟩
        rw [HRD2.out] at h
        injection h with h
        injection h with _ h
        have h3 : p2.data.toList = [] := (show p2.data.toList = s2 from TP2.out).trans h
        rw [← Lib.toList_data] at h3
        rw [h3] at hs2
        cases hs2
end Go.Proofs.Ytkdplgcffdaoaaa
