/- Walks of extract.among and of the documents' Said (chapter 32). Walks of extract's Receipt, and of Right at a record's finding (chapter 32). Walk of extract.Right at a head's finding (chapter 32). -/
import Derived.Test.YtidekfbgjghcjaaGreatG31
import Derived.Test.YtidekfbgjghcjaaGreatG15
import Derived.Test.YtidekfbgjghcjaaGreatG14
import Derived.Test.YtidekfbgjghcjaaGreatWireD5
import Derived.Test.YtidekfbgjghcjaaGreatWireR
import Derived.Test.YtidekfbgjghcjaaGreatExt1
import Derived.Test.YtidekfbgjghcjaaGreatLoad
namespace Go.Proofs.YtidekfbgjghcjaaGreat
set_option linter.unusedSimpArgs false
set_option linter.unusedVariables false
open Go Go.RowKit

section
variable {P : Program} {ops : Array Oper} {rest : List Oper} {o : Oper} {a : Act} {w : World} {Q : Exit → Act → World → Prop}
theorem wpList_run_met (v : Value) (d : Option Tmp) (hg : Region.wanted o (yielded ops a.tmps) = true) (hds : o.dst = d) (hr : (execOp a.eval o).run P w = .ok (.value v) w)
    (h : wpList P ops Q rest (a.put d v) w) : wpList P ops Q (o :: rest) a w := by
  subst hds
  unfold wpList
  rw [if_pos hg]
  refine .inl ?_
  unfold Go.Oper.wp
  rw [hr]
  exact h
end
structure Hd where
  m : MsgD
  u : Value
  l : Value
def HdRow (w : World) (v : Value) (hs : List Hd) : Prop :=
  (hs = [] ∧ ∃ (p : Option Addr) (c : Nat), v = .slice p 0 c) ∨
  ∃ g o c, v = .slice (some ⟨g, o, none⟩) hs.length c ∧ hs.length ≤ c ∧ g < w.heap.size ∧ ∀ (j : Nat) (h : Hd), hs[j]? = some h → w.rangeAt g (o + j * 41) (h.m.cells h.u h.l)
theorem HdRow.shape {w : World} {v : Value} {hs : List Hd} (h : HdRow w v hs) : ∃ (p : Option Addr) (c : Nat), v = .slice p hs.length c := by
  rcases h with ⟨rfl, p, c, rfl⟩ | ⟨g, o, c, rfl, _⟩
  · exact ⟨p, c, rfl⟩
  · exact ⟨_, c, rfl⟩
theorem HdRow.below {w w' : World} {v : Value} {hs : List Hd} (h : HdRow w v hs) (hb : Below w.heap.size w w') : HdRow w' v hs := by
  refine h.imp id ?_
  rintro ⟨g, o, c, h1, hc, h2, h3⟩
  exact ⟨g, o, c, h1, hc, Nat.lt_of_lt_of_le h2 hb.size, fun j x hx i u hu => by rw [hb.cell (by show g < w.heap.size; omega)]; exact h3 j x hx i u hu⟩
def HdFits (w : World) (hs : List Hd) : Prop := ∀ (j : Nat) (h : Hd), hs[j]? = some h → MsgFits w h.m h.u h.l
def HdFew (hs : List Hd) : Prop := ∀ (j : Nat) (h : Hd), hs[j]? = some h → FewM h.m
theorem MsgFits.onto {w w' : World} {m : MsgD} {u l : Value} (h : MsgFits w m u l) (hb : Below w.heap.size w w') : MsgFits w' m u l :=
  ⟨h.kind, h.epoch, h.seq, h.nonce, h.tag, h.last, h.sld, h.rcp, h.at_, h.slot, h.up.below hb (Nat.le_refl _), h.left.below hb (Nat.le_refl _), h.upl, h.leftl⟩
theorem HdFits.below {w w' : World} {hs : List Hd} (h : HdFits w hs) (hb : Below w.heap.size w w') : HdFits w' hs := fun j x hx => (h j x hx).onto hb
def SaidAt (hs : List Hd) (msg : List UInt8) (k : Nat) : Prop := ∃ h, hs[k]? = some h ∧ (taggedB h.m.kind && msgOk h.m) = true ∧ msgSaid h.m = msg
def SaidEnd32 (hs : List Hd) (msg : List UInt8) (e : Ending) : Prop := ∃ q : Bool, e = .returned (.bool q) ∧ (q = true ↔ ∃ k, SaidAt hs msg k)
set_option maxRecDepth 100000 in
set_option maxHeartbeats 600000 in
theorem among32_walk (v : Value) (hs : List Hd) (msg : ByteArray) (w : World) (h : HdRow w v hs) (hl : hs.length ≤ 1048576) (hf : HdFits w hs) (hw : HdFew hs) :
    Calls Tryz.prog 72 #[v, .string msg] w fun e w' => SaidEnd32 hs msg.data.toList e ∧ Below w.heap.size w w' := by
  obtain ⟨p, c, rfl⟩ := h.shape
  obtain ⟨n, hn⟩ : ∃ n, n = hs.length := ⟨_, rfl⟩
  rw [← hn] at h ⊢
  have HN := Lib.hid hn
  have HFT := Lib.hid hf
  have HFW := Lib.hid hw
  have HR := Lib.hid h
  have hn2 : n ≤ 1048576 := by omega
  clear h hl hn hf hw
  go_enter Tryz.func72, Tryz.ntmps72
  go_wp2_with fail
  go_loopw [11] (fun i wr => ∃ k : Nat, k ≤ n ∧ i = .int .i64 k ∧ (∀ j, j < k → ¬ SaidAt hs msg.data.toList j) ∧ Below w.heap.size w wr) (fun i _ => n - (intOf i).toNat)
  case atStart => exact ⟨0, by omega, rfl, fun j hj => by omega, Below.refl _ _⟩
  case round =>
    obtain ⟨k, hk, rfl, hno, hbel⟩ := hrel
    have HNO := Lib.hid hno; clear hno
    have HBR := Lib.hid hbel; clear hbel
    by_cases hlt : k < n
    · have hlt' : (k : Int) < n := by omega
      obtain ⟨h, hh⟩ : ∃ h, hs[k]? = some h := ⟨_, List.getElem?_eq_getElem (by rw [← HN.out]; exact hlt)⟩
      rcases HR.out with ⟨h0, _⟩ | ⟨g, o, c', hq, hcc, hg, hat⟩
      · have := HN.out; rw [h0] at this; simp at this; omega
      rw [← HN.out] at hq
      injection hq with hq1 _ hq3
      subst hq1 hq3
      have HH := Lib.hid hh
      have HF := Lib.hid (HFT.out k h hh)
      have HW := Lib.hid (HFW.out k h hh)
      have HRG := Lib.hid (show ∀ W : World, Below w.heap.size w W → W.rangeAt g (o + k * 41) (h.m.cells h.u h.l) from fun W hW j u hu => by rw [hW.cell (by show g < w.heap.size; exact hg)]; exact hat k h hh j u hu)
      have HNX := Lib.hid (show ¬ SaidAt hs msg.data.toList k → ∀ j, j < k + 1 → ¬ SaidAt hs msg.data.toList j from fun hx j hj => by
        by_cases hjk : j < k
        · exact HNO.out j hjk
        · obtain rfl : j = k := by omega
          exact hx)
      clear hat hh
      have HR0 := Lib.hid (HRG.out _ HBR.out)
      have hone : ∀ v ∈ h.m.cells h.u h.l, v.oneCell' = true := mcells_one HF.out.up.shape HF.out.left.shape
      go_wp2_with (first
        | ((with_reducible refine wpList_load_met 39 (.tmp 13) g (o + k * 41) (h.m.cells h.u h.l) _ (some 14) (HR0.out) Tryz.underlying39 rfl sizeMsg ?hg ?ho ?hds ?hx ?_); (case ho | hg | hds | hx => rfl))
        | ((with_reducible refine wpList_alloc_new 39 mzero zeroMsgB (some 6) ?hgd ?ho ?hd ?_); (case hgd | ho | hd => rfl); (intro b5 w5 l5 B5 e5 z5))
        | ((with_reducible refine wpList_store_new 39 (.tmp 6) (.tmp 14) b5 mzero (h.m.cells h.u h.l) 39 B5 rfl sizeMsg hone ?hgd ?ho ?hx ?hy ?_); (case hgd | ho | hx | hy => rfl); (intro w6 B6 o6))
        | ((with_reducible refine wpList_load_met 39 (.tmp 6) b5 0 (h.m.cells h.u h.l) _ (some 16) (B6.range) Tryz.underlying39 rfl sizeMsg ?hg ?ho ?hds ?hx ?_); (case ho | hg | hds | hx => rfl))
        | fail)
      have hb6 := o6.below (e5.mono l5) l5
      have HB6 := Lib.hid (HBR.out.trans (hb6.mono HBR.out.size))
      clear B5 B6 o6 e5 l5 z5 hb6
      refine (said27_walk h.m h.u h.l _ (HF.out.onto HB6.out).up (HF.out.onto HB6.out).left (HW.out.tame HF.out)).mono ?_
      rintro e w7 ⟨he, hb7⟩
      have HB7 := Lib.hid (HB6.out.trans (hb7.mono HB6.out.size))
      clear hb7
      rcases he with ⟨hok, s, rfl, ts⟩ | ⟨hok, rfl⟩
      · have HOK := Lib.hid hok
        have TS := Lib.hid ts
        clear hok ts
        by_cases hm : s.data.toList = msg.data.toList
        · have q1 : (s.toList == msg.toList) = true := by rw [bytesEqB32, decide_eq_true_eq]; exact (Txt.self s).eq hm.symm
          have HM := Lib.hid hm
          clear hm
          go_wp2_with fail
          go_ret
          exact ⟨⟨true, rfl, ⟨fun _ => ⟨k, h, HH.out, HOK.out, by rw [← HM.out]; exact TS.out.symm⟩, fun _ => rfl⟩⟩, HB7.out⟩
        · have q1 : (s.toList == msg.toList) = false := Txt.other (Txt.self _) (Txt.self _) hm
          have HM := Lib.hid hm
          clear hm
          go_wp2_with fail
          go_roundw
          case rel =>
            refine ⟨k + 1, by omega, by go_num, HNX.out ?_, HB7.out⟩
            rintro ⟨h', hh', h1, h2⟩
            rw [HH.out] at hh'
            cases hh'
            exact HM.out (by rw [← h2]; exact TS.out)
          case measure => simp [intOf]; omega
      · have HOK := Lib.hid hok
        clear hok
        go_wp2_with fail
        go_roundw
        case rel =>
          refine ⟨k + 1, by omega, by go_num, HNX.out ?_, HB7.out⟩
          rintro ⟨h', hh', h1, h2⟩
          rw [HH.out] at hh'
          cases hh'
          exact HOK.out h1
        case measure => simp [intOf]; omega
    · obtain rfl : k = n := by omega
      go_wp2_with fail
      go_ret
      refine ⟨⟨false, rfl, ⟨fun h => (by cases h), fun ⟨j, hj⟩ => ?_⟩⟩, HBR.out⟩
      have hj0 := hj
      obtain ⟨y, hy, _⟩ := hj0
      have := (List.getElem?_eq_some_iff.1 hy).1
      exact absurd hj (HNO.out j (by rw [HN.out]; exact this))

set_option maxRecDepth 100000 in
set_option maxHeartbeats 600000 in
theorem rsaid32_walk (v : Value) (hs : List Hd) (msg : ByteArray) (w : World) (h : HdRow w v hs) (hl : hs.length ≤ 1048576) (hf : HdFits w hs) (hw : HdFew hs) :
    Calls Tryz.prog 21 #[v, .string msg] w fun e w' => SaidEnd32 hs msg.data.toList e ∧ Below w.heap.size w w' := by
  obtain ⟨p, c, rfl⟩ := h.shape
  obtain ⟨n, hn⟩ : ∃ n, n = hs.length := ⟨_, rfl⟩
  rw [← hn] at h ⊢
  have HN := Lib.hid hn
  have HFT := Lib.hid hf
  have HFW := Lib.hid hw
  have HR := Lib.hid h
  have hn2 : n ≤ 1048576 := by omega
  clear h hl hn hf hw
  go_enter Tryz.func21, Tryz.ntmps21
  go_wp2_with fail
  go_loopw [5] (fun i wr => ∃ k : Nat, k ≤ n ∧ i = .int .i64 k ∧ (∀ j, j < k → ¬ SaidAt hs msg.data.toList j) ∧ Below w.heap.size w wr) (fun i _ => n - (intOf i).toNat)
  case atStart => exact ⟨0, by omega, rfl, fun j hj => by omega, Below.refl _ _⟩
  case round =>
    obtain ⟨k, hk, rfl, hno, hbel⟩ := hrel
    have HNO := Lib.hid hno; clear hno
    have HBR := Lib.hid hbel; clear hbel
    by_cases hlt : k < n
    · have hlt' : (k : Int) < n := by omega
      obtain ⟨h, hh⟩ : ∃ h, hs[k]? = some h := ⟨_, List.getElem?_eq_getElem (by rw [← HN.out]; exact hlt)⟩
      rcases HR.out with ⟨h0, _⟩ | ⟨g, o, c', hq, hcc, hg, hat⟩
      · have := HN.out; rw [h0] at this; simp at this; omega
      rw [← HN.out] at hq
      injection hq with hq1 _ hq3
      subst hq1 hq3
      have HH := Lib.hid hh
      have HF := Lib.hid (HFT.out k h hh)
      have HW := Lib.hid (HFW.out k h hh)
      have HRG := Lib.hid (show ∀ W : World, Below w.heap.size w W → W.rangeAt g (o + k * 41) (h.m.cells h.u h.l) from fun W hW j u hu => by rw [hW.cell (by show g < w.heap.size; exact hg)]; exact hat k h hh j u hu)
      have HNX := Lib.hid (show ¬ SaidAt hs msg.data.toList k → ∀ j, j < k + 1 → ¬ SaidAt hs msg.data.toList j from fun hx j hj => by
        by_cases hjk : j < k
        · exact HNO.out j hjk
        · obtain rfl : j = k := by omega
          exact hx)
      clear hat hh
      have HR0 := Lib.hid (HRG.out _ HBR.out)
      by_cases ht : taggedB h.m.kind = true
      rotate_left
      · have k3 : (h.m.kind == 3) = false := by unfold taggedB at ht; simp at ht; simpa using ht.1
        have k4 : (h.m.kind == 4) = false := by unfold taggedB at ht; simp at ht; simpa using ht.2
        have HTG := Lib.hid ht
        clear ht
        have c0 : wr.cell? ⟨g, o + k * 41, none⟩ = some (.int .i64 h.m.kind) := by have := HR0.out 0 _ rfl; simpa using this
        go_wp2_with fail
        go_roundw
        case rel =>
          refine ⟨k + 1, by omega, by go_num, HNX.out ?_, HBR.out⟩
          rintro ⟨h', hh', h1, h2⟩
          rw [HH.out] at hh'
          cases hh'
          rw [Bool.and_eq_true] at h1; exact HTG.out h1.1
        case measure => simp [intOf]; omega
      have HTG := Lib.hid ht
      obtain ⟨kd, hkd, hk34⟩ : ∃ kd : Int, h.m.kind = kd ∧ (kd = 3 ∨ kd = 4) := ⟨_, rfl, by unfold taggedB at ht; simpa using ht⟩
      have HKD := Lib.hid hkd
      clear ht hkd
      have c0 : wr.cell? ⟨g, o + k * 41, none⟩ = some (.int .i64 kd) := by have := HR0.out 0 _ rfl; rw [← HKD.out]; simpa using this
      rcases hk34 with rfl | rfl
      · have hkk : (0 : Int) ≤ k := by omega
        go_upto_region 4 with fail
        go_step
        refine wpList_run_met (.slice (some ⟨g, o, none⟩) n c) (some 12) rfl rfl (by first | (go_simp; done) | (go_simp; with_reducible rfl) | kernel_rfl) ?_
        (try simp only [Act.put, Array.getInternal_eq_getElem, List.getElem_toArray, List.getElem_cons_succ, List.getElem_cons_zero, List.setIfInBounds_toArray, List.set_cons_zero, List.set_cons_succ])
        refine wpList_run_met (.int .i64 (k : Int)) (some 13) rfl rfl (by first | (go_simp; done) | (go_simp; with_reducible rfl) | kernel_rfl) ?_
        (try simp only [Act.put, Array.getInternal_eq_getElem, List.getElem_toArray, List.getElem_cons_succ, List.getElem_cons_zero, List.setIfInBounds_toArray, List.set_cons_zero, List.set_cons_succ])
        refine wpList_run_met (.pointer (some ⟨g, o + k * 41, none⟩)) (some 14) rfl rfl (by first | (go_simp; done) | (go_simp; with_reducible rfl) | kernel_rfl) ?_
        (try simp only [Act.put, Array.getInternal_eq_getElem, List.getElem_toArray, List.getElem_cons_succ, List.getElem_cons_zero, List.setIfInBounds_toArray, List.set_cons_zero, List.set_cons_succ])
        refine wpList_run_met (.pointer (some ⟨g, o + k * 41, none⟩)) (some 15) rfl rfl (by first | (go_simp; done) | (go_simp; with_reducible rfl) | kernel_rfl) ?_
        (try simp only [Act.put, Array.getInternal_eq_getElem, List.getElem_toArray, List.getElem_cons_succ, List.getElem_cons_zero, List.setIfInBounds_toArray, List.set_cons_zero, List.set_cons_succ])
        refine wpList_run_met (.int .i64 3) (some 16) rfl rfl (by first | (go_simp; done) | (go_simp; with_reducible rfl) | kernel_rfl) ?_
        (try simp only [Act.put, Array.getInternal_eq_getElem, List.getElem_toArray, List.getElem_cons_succ, List.getElem_cons_zero, List.setIfInBounds_toArray, List.set_cons_zero, List.set_cons_succ])
        refine wpList_run_met (.bool true) (some 17) rfl rfl (by first | (go_simp; done) | (go_simp; with_reducible rfl) | kernel_rfl) ?_
        (try simp only [Act.put, Array.getInternal_eq_getElem, List.getElem_toArray, List.getElem_cons_succ, List.getElem_cons_zero, List.setIfInBounds_toArray, List.set_cons_zero, List.set_cons_succ])
        refine wpList_run_met (.bool true) (some 18) rfl rfl (by first | (go_simp; done) | (go_simp; with_reducible rfl) | kernel_rfl) ?_
        (try simp only [Act.put, Array.getInternal_eq_getElem, List.getElem_toArray, List.getElem_cons_succ, List.getElem_cons_zero, List.setIfInBounds_toArray, List.set_cons_zero, List.set_cons_succ])
        refine wpList_skip rfl ?_
        (try simp only [Act.put, Array.getInternal_eq_getElem, List.getElem_toArray, List.getElem_cons_succ, List.getElem_cons_zero, List.setIfInBounds_toArray, List.set_cons_zero, List.set_cons_succ])
        refine wpList_skip rfl ?_
        (try simp only [Act.put, Array.getInternal_eq_getElem, List.getElem_toArray, List.getElem_cons_succ, List.getElem_cons_zero, List.setIfInBounds_toArray, List.set_cons_zero, List.set_cons_succ])
        refine wpList_skip rfl ?_
        (try simp only [Act.put, Array.getInternal_eq_getElem, List.getElem_toArray, List.getElem_cons_succ, List.getElem_cons_zero, List.setIfInBounds_toArray, List.set_cons_zero, List.set_cons_succ])
        refine wpList_skip rfl ?_
        (try simp only [Act.put, Array.getInternal_eq_getElem, List.getElem_toArray, List.getElem_cons_succ, List.getElem_cons_zero, List.setIfInBounds_toArray, List.set_cons_zero, List.set_cons_succ])
        refine wpList_skip rfl ?_
        (try simp only [Act.put, Array.getInternal_eq_getElem, List.getElem_toArray, List.getElem_cons_succ, List.getElem_cons_zero, List.setIfInBounds_toArray, List.set_cons_zero, List.set_cons_succ])
        refine wpList_skip rfl ?_
        (try simp only [Act.put, Array.getInternal_eq_getElem, List.getElem_toArray, List.getElem_cons_succ, List.getElem_cons_zero, List.setIfInBounds_toArray, List.set_cons_zero, List.set_cons_succ])
        refine wpList_run_met (.bool true) (some 25) rfl rfl (by first | (go_simp; done) | (go_simp; with_reducible rfl) | kernel_rfl) ?_
        (try simp only [Act.put, Array.getInternal_eq_getElem, List.getElem_toArray, List.getElem_cons_succ, List.getElem_cons_zero, List.setIfInBounds_toArray, List.set_cons_zero, List.set_cons_succ])
        refine wpList_run_met (.bool true) (some 26) rfl rfl (by first | (go_simp; done) | (go_simp; with_reducible rfl) | kernel_rfl) ?_
        (try simp only [Act.put, Array.getInternal_eq_getElem, List.getElem_toArray, List.getElem_cons_succ, List.getElem_cons_zero, List.setIfInBounds_toArray, List.set_cons_zero, List.set_cons_succ])
        refine wpList_run_met (.slice (some ⟨g, o, none⟩) n c) (some 27) rfl rfl (by first | (go_simp; done) | (go_simp; with_reducible rfl) | kernel_rfl) ?_
        (try simp only [Act.put, Array.getInternal_eq_getElem, List.getElem_toArray, List.getElem_cons_succ, List.getElem_cons_zero, List.setIfInBounds_toArray, List.set_cons_zero, List.set_cons_succ])
        refine wpList_run_met (.int .i64 (k : Int)) (some 28) rfl rfl (by first | (go_simp; done) | (go_simp; with_reducible rfl) | kernel_rfl) ?_
        (try simp only [Act.put, Array.getInternal_eq_getElem, List.getElem_toArray, List.getElem_cons_succ, List.getElem_cons_zero, List.setIfInBounds_toArray, List.set_cons_zero, List.set_cons_succ])
        refine wpList_run_met (.pointer (some ⟨g, o + k * 41, none⟩)) (some 29) rfl rfl (by first | (go_simp; done) | (go_simp; with_reducible rfl) | kernel_rfl) ?_
        (try simp only [Act.put, Array.getInternal_eq_getElem, List.getElem_toArray, List.getElem_cons_succ, List.getElem_cons_zero, List.setIfInBounds_toArray, List.set_cons_zero, List.set_cons_succ])
        refine wpList_load_met 39 (.tmp 29) g (o + k * 41) (h.m.cells h.u h.l) _ (some 30) HR0.out Tryz.underlying39 rfl sizeMsg rfl rfl rfl rfl ?_
        cases hok : msgOk h.m with
        | false =>
          have HOK := Lib.hid (show msgOk h.m = false from hok)
          clear hok
          go_wp2_with fail
          refine (right27_walk h.m h.u h.l _ (HF.out.onto HBR.out).up (HF.out.onto HBR.out).left HF.out.upl HF.out.leftl).mono ?_
          rintro e w1 ⟨he, hb1⟩
          rw [show rightM h.m = false by rw [rightM_eq]; exact HOK.out] at he
          subst he
          have HB1 := Lib.hid (HBR.out.trans (hb1.mono HBR.out.size))
          clear hb1 c0
          go_wp2_with fail
          go_roundw
          case rel =>
            refine ⟨k + 1, by omega, by go_num, HNX.out ?_, HB1.out⟩
            rintro ⟨h', hh', h1, h2⟩
            rw [HH.out] at hh'
            cases hh'
            rw [HOK.out] at h1; simp at h1
          case measure => simp [intOf]; omega
        | true =>
          have HOK := Lib.hid (show msgOk h.m = true from hok)
          clear hok
          go_wp2_with fail
          refine (right27_walk h.m h.u h.l _ (HF.out.onto HBR.out).up (HF.out.onto HBR.out).left HF.out.upl HF.out.leftl).mono ?_
          rintro e w1 ⟨he, hb1⟩
          rw [show rightM h.m = true by rw [rightM_eq]; exact HOK.out] at he
          subst he
          have HB1 := Lib.hid (HBR.out.trans (hb1.mono HBR.out.size))
          clear hb1 c0
          have HR1 := Lib.hid (HRG.out _ HB1.out)
          rename_i K0 hK0 xle
          refine hK0 _ _ ?_
          refine wpList_run_met (.bool true) (some 32) rfl rfl (by first | (go_simp; done) | (go_simp; with_reducible rfl) | kernel_rfl) ?_
          (try simp only [Act.put, Array.getInternal_eq_getElem, List.getElem_toArray, List.getElem_cons_succ, List.getElem_cons_zero, List.setIfInBounds_toArray, List.set_cons_zero, List.set_cons_succ])
          refine wpList_run_met (.bool true) (some 33) rfl rfl (by first | (go_simp; done) | (go_simp; with_reducible rfl) | kernel_rfl) ?_
          (try simp only [Act.put, Array.getInternal_eq_getElem, List.getElem_toArray, List.getElem_cons_succ, List.getElem_cons_zero, List.setIfInBounds_toArray, List.set_cons_zero, List.set_cons_succ])
          refine wpList_run_met (.slice (some ⟨g, o, none⟩) n c) (some 34) rfl rfl (by first | (go_simp; done) | (go_simp; with_reducible rfl) | kernel_rfl) ?_
          (try simp only [Act.put, Array.getInternal_eq_getElem, List.getElem_toArray, List.getElem_cons_succ, List.getElem_cons_zero, List.setIfInBounds_toArray, List.set_cons_zero, List.set_cons_succ])
          refine wpList_run_met (.int .i64 (k : Int)) (some 35) rfl rfl (by first | (go_simp; done) | (go_simp; with_reducible rfl) | kernel_rfl) ?_
          (try simp only [Act.put, Array.getInternal_eq_getElem, List.getElem_toArray, List.getElem_cons_succ, List.getElem_cons_zero, List.setIfInBounds_toArray, List.set_cons_zero, List.set_cons_succ])
          refine wpList_run_met (.pointer (some ⟨g, o + k * 41, none⟩)) (some 36) rfl rfl (by first | (go_simp; done) | (go_simp; with_reducible rfl) | kernel_rfl) ?_
          (try simp only [Act.put, Array.getInternal_eq_getElem, List.getElem_toArray, List.getElem_cons_succ, List.getElem_cons_zero, List.setIfInBounds_toArray, List.set_cons_zero, List.set_cons_succ])
          refine wpList_load_met 39 (.tmp 36) g (o + k * 41) (h.m.cells h.u h.l) _ (some 37) HR1.out Tryz.underlying39 rfl sizeMsg rfl rfl rfl rfl ?_
          go_wp2_with fail
          refine (rsaid27_walk h.m h.u h.l _ (HF.out.onto HB1.out).up (HF.out.onto HB1.out).left HOK.out).mono ?_
          rintro e w2 ⟨s, rfl, ts, hb2⟩
          have TS := Lib.hid ts
          have HB2 := Lib.hid (HB1.out.trans (hb2.mono HB1.out.size))
          clear ts hb2
          by_cases hm : s.data.toList = msg.data.toList
          · have q1 : (s.toList == msg.toList) = true := by rw [bytesEqB32, decide_eq_true_eq]; exact (Txt.self s).eq hm.symm
            have HM := Lib.hid hm
            clear hm
            go_wp2_with fail
            go_ret
            exact ⟨⟨true, rfl, ⟨fun _ => ⟨k, h, HH.out, by rw [HTG.out, HOK.out]; rfl, by rw [← HM.out]; exact TS.out.symm⟩, fun _ => rfl⟩⟩, HB2.out⟩
          · have q1 : (s.toList == msg.toList) = false := Txt.other (Txt.self _) (Txt.self _) hm
            have HM := Lib.hid hm
            clear hm
            go_wp2_with fail
            go_roundw
            case rel =>
              refine ⟨k + 1, by omega, by go_num, HNX.out ?_, HB2.out⟩
              rintro ⟨h', hh', h1, h2⟩
              rw [HH.out] at hh'
              cases hh'
              exact HM.out (by rw [← h2]; exact TS.out)
            case measure => simp [intOf]; omega
      · have hkk : (0 : Int) ≤ k := by omega
        go_upto_region 4 with fail
        go_step
        refine wpList_run_met (.slice (some ⟨g, o, none⟩) n c) (some 12) rfl rfl (by first | (go_simp; done) | (go_simp; with_reducible rfl) | kernel_rfl) ?_
        (try simp only [Act.put, Array.getInternal_eq_getElem, List.getElem_toArray, List.getElem_cons_succ, List.getElem_cons_zero, List.setIfInBounds_toArray, List.set_cons_zero, List.set_cons_succ])
        refine wpList_run_met (.int .i64 (k : Int)) (some 13) rfl rfl (by first | (go_simp; done) | (go_simp; with_reducible rfl) | kernel_rfl) ?_
        (try simp only [Act.put, Array.getInternal_eq_getElem, List.getElem_toArray, List.getElem_cons_succ, List.getElem_cons_zero, List.setIfInBounds_toArray, List.set_cons_zero, List.set_cons_succ])
        refine wpList_run_met (.pointer (some ⟨g, o + k * 41, none⟩)) (some 14) rfl rfl (by first | (go_simp; done) | (go_simp; with_reducible rfl) | kernel_rfl) ?_
        (try simp only [Act.put, Array.getInternal_eq_getElem, List.getElem_toArray, List.getElem_cons_succ, List.getElem_cons_zero, List.setIfInBounds_toArray, List.set_cons_zero, List.set_cons_succ])
        refine wpList_run_met (.pointer (some ⟨g, o + k * 41, none⟩)) (some 15) rfl rfl (by first | (go_simp; done) | (go_simp; with_reducible rfl) | kernel_rfl) ?_
        (try simp only [Act.put, Array.getInternal_eq_getElem, List.getElem_toArray, List.getElem_cons_succ, List.getElem_cons_zero, List.setIfInBounds_toArray, List.set_cons_zero, List.set_cons_succ])
        refine wpList_run_met (.int .i64 4) (some 16) rfl rfl (by first | (go_simp; done) | (go_simp; with_reducible rfl) | kernel_rfl) ?_
        (try simp only [Act.put, Array.getInternal_eq_getElem, List.getElem_toArray, List.getElem_cons_succ, List.getElem_cons_zero, List.setIfInBounds_toArray, List.set_cons_zero, List.set_cons_succ])
        refine wpList_run_met (.bool false) (some 17) rfl rfl (by first | (go_simp; done) | (go_simp; with_reducible rfl) | kernel_rfl) ?_
        (try simp only [Act.put, Array.getInternal_eq_getElem, List.getElem_toArray, List.getElem_cons_succ, List.getElem_cons_zero, List.setIfInBounds_toArray, List.set_cons_zero, List.set_cons_succ])
        refine wpList_run_met (.bool false) (some 18) rfl rfl (by first | (go_simp; done) | (go_simp; with_reducible rfl) | kernel_rfl) ?_
        (try simp only [Act.put, Array.getInternal_eq_getElem, List.getElem_toArray, List.getElem_cons_succ, List.getElem_cons_zero, List.setIfInBounds_toArray, List.set_cons_zero, List.set_cons_succ])
        refine wpList_run_met (.slice (some ⟨g, o, none⟩) n c) (some 19) rfl rfl (by first | (go_simp; done) | (go_simp; with_reducible rfl) | kernel_rfl) ?_
        (try simp only [Act.put, Array.getInternal_eq_getElem, List.getElem_toArray, List.getElem_cons_succ, List.getElem_cons_zero, List.setIfInBounds_toArray, List.set_cons_zero, List.set_cons_succ])
        refine wpList_run_met (.int .i64 (k : Int)) (some 20) rfl rfl (by first | (go_simp; done) | (go_simp; with_reducible rfl) | kernel_rfl) ?_
        (try simp only [Act.put, Array.getInternal_eq_getElem, List.getElem_toArray, List.getElem_cons_succ, List.getElem_cons_zero, List.setIfInBounds_toArray, List.set_cons_zero, List.set_cons_succ])
        refine wpList_run_met (.pointer (some ⟨g, o + k * 41, none⟩)) (some 21) rfl rfl (by first | (go_simp; done) | (go_simp; with_reducible rfl) | kernel_rfl) ?_
        (try simp only [Act.put, Array.getInternal_eq_getElem, List.getElem_toArray, List.getElem_cons_succ, List.getElem_cons_zero, List.setIfInBounds_toArray, List.set_cons_zero, List.set_cons_succ])
        refine wpList_run_met (.pointer (some ⟨g, o + k * 41, none⟩)) (some 22) rfl rfl (by first | (go_simp; done) | (go_simp; with_reducible rfl) | kernel_rfl) ?_
        (try simp only [Act.put, Array.getInternal_eq_getElem, List.getElem_toArray, List.getElem_cons_succ, List.getElem_cons_zero, List.setIfInBounds_toArray, List.set_cons_zero, List.set_cons_succ])
        refine wpList_run_met (.int .i64 4) (some 23) rfl rfl (by first | (go_simp; done) | (go_simp; with_reducible rfl) | kernel_rfl) ?_
        (try simp only [Act.put, Array.getInternal_eq_getElem, List.getElem_toArray, List.getElem_cons_succ, List.getElem_cons_zero, List.setIfInBounds_toArray, List.set_cons_zero, List.set_cons_succ])
        refine wpList_run_met (.bool true) (some 24) rfl rfl (by first | (go_simp; done) | (go_simp; with_reducible rfl) | kernel_rfl) ?_
        (try simp only [Act.put, Array.getInternal_eq_getElem, List.getElem_toArray, List.getElem_cons_succ, List.getElem_cons_zero, List.setIfInBounds_toArray, List.set_cons_zero, List.set_cons_succ])
        refine wpList_run_met (.bool true) (some 25) rfl rfl (by first | (go_simp; done) | (go_simp; with_reducible rfl) | kernel_rfl) ?_
        (try simp only [Act.put, Array.getInternal_eq_getElem, List.getElem_toArray, List.getElem_cons_succ, List.getElem_cons_zero, List.setIfInBounds_toArray, List.set_cons_zero, List.set_cons_succ])
        refine wpList_run_met (.bool true) (some 26) rfl rfl (by first | (go_simp; done) | (go_simp; with_reducible rfl) | kernel_rfl) ?_
        (try simp only [Act.put, Array.getInternal_eq_getElem, List.getElem_toArray, List.getElem_cons_succ, List.getElem_cons_zero, List.setIfInBounds_toArray, List.set_cons_zero, List.set_cons_succ])
        refine wpList_run_met (.slice (some ⟨g, o, none⟩) n c) (some 27) rfl rfl (by first | (go_simp; done) | (go_simp; with_reducible rfl) | kernel_rfl) ?_
        (try simp only [Act.put, Array.getInternal_eq_getElem, List.getElem_toArray, List.getElem_cons_succ, List.getElem_cons_zero, List.setIfInBounds_toArray, List.set_cons_zero, List.set_cons_succ])
        refine wpList_run_met (.int .i64 (k : Int)) (some 28) rfl rfl (by first | (go_simp; done) | (go_simp; with_reducible rfl) | kernel_rfl) ?_
        (try simp only [Act.put, Array.getInternal_eq_getElem, List.getElem_toArray, List.getElem_cons_succ, List.getElem_cons_zero, List.setIfInBounds_toArray, List.set_cons_zero, List.set_cons_succ])
        refine wpList_run_met (.pointer (some ⟨g, o + k * 41, none⟩)) (some 29) rfl rfl (by first | (go_simp; done) | (go_simp; with_reducible rfl) | kernel_rfl) ?_
        (try simp only [Act.put, Array.getInternal_eq_getElem, List.getElem_toArray, List.getElem_cons_succ, List.getElem_cons_zero, List.setIfInBounds_toArray, List.set_cons_zero, List.set_cons_succ])
        refine wpList_load_met 39 (.tmp 29) g (o + k * 41) (h.m.cells h.u h.l) _ (some 30) HR0.out Tryz.underlying39 rfl sizeMsg rfl rfl rfl rfl ?_
        cases hok : msgOk h.m with
        | false =>
          have HOK := Lib.hid (show msgOk h.m = false from hok)
          clear hok
          go_wp2_with fail
          refine (right27_walk h.m h.u h.l _ (HF.out.onto HBR.out).up (HF.out.onto HBR.out).left HF.out.upl HF.out.leftl).mono ?_
          rintro e w1 ⟨he, hb1⟩
          rw [show rightM h.m = false by rw [rightM_eq]; exact HOK.out] at he
          subst he
          have HB1 := Lib.hid (HBR.out.trans (hb1.mono HBR.out.size))
          clear hb1 c0
          go_wp2_with fail
          go_roundw
          case rel =>
            refine ⟨k + 1, by omega, by go_num, HNX.out ?_, HB1.out⟩
            rintro ⟨h', hh', h1, h2⟩
            rw [HH.out] at hh'
            cases hh'
            rw [HOK.out] at h1; simp at h1
          case measure => simp [intOf]; omega
        | true =>
          have HOK := Lib.hid (show msgOk h.m = true from hok)
          clear hok
          go_wp2_with fail
          refine (right27_walk h.m h.u h.l _ (HF.out.onto HBR.out).up (HF.out.onto HBR.out).left HF.out.upl HF.out.leftl).mono ?_
          rintro e w1 ⟨he, hb1⟩
          rw [show rightM h.m = true by rw [rightM_eq]; exact HOK.out] at he
          subst he
          have HB1 := Lib.hid (HBR.out.trans (hb1.mono HBR.out.size))
          clear hb1 c0
          have HR1 := Lib.hid (HRG.out _ HB1.out)
          rename_i K0 hK0 xle
          refine hK0 _ _ ?_
          refine wpList_run_met (.bool true) (some 32) rfl rfl (by first | (go_simp; done) | (go_simp; with_reducible rfl) | kernel_rfl) ?_
          (try simp only [Act.put, Array.getInternal_eq_getElem, List.getElem_toArray, List.getElem_cons_succ, List.getElem_cons_zero, List.setIfInBounds_toArray, List.set_cons_zero, List.set_cons_succ])
          refine wpList_run_met (.bool true) (some 33) rfl rfl (by first | (go_simp; done) | (go_simp; with_reducible rfl) | kernel_rfl) ?_
          (try simp only [Act.put, Array.getInternal_eq_getElem, List.getElem_toArray, List.getElem_cons_succ, List.getElem_cons_zero, List.setIfInBounds_toArray, List.set_cons_zero, List.set_cons_succ])
          refine wpList_run_met (.slice (some ⟨g, o, none⟩) n c) (some 34) rfl rfl (by first | (go_simp; done) | (go_simp; with_reducible rfl) | kernel_rfl) ?_
          (try simp only [Act.put, Array.getInternal_eq_getElem, List.getElem_toArray, List.getElem_cons_succ, List.getElem_cons_zero, List.setIfInBounds_toArray, List.set_cons_zero, List.set_cons_succ])
          refine wpList_run_met (.int .i64 (k : Int)) (some 35) rfl rfl (by first | (go_simp; done) | (go_simp; with_reducible rfl) | kernel_rfl) ?_
          (try simp only [Act.put, Array.getInternal_eq_getElem, List.getElem_toArray, List.getElem_cons_succ, List.getElem_cons_zero, List.setIfInBounds_toArray, List.set_cons_zero, List.set_cons_succ])
          refine wpList_run_met (.pointer (some ⟨g, o + k * 41, none⟩)) (some 36) rfl rfl (by first | (go_simp; done) | (go_simp; with_reducible rfl) | kernel_rfl) ?_
          (try simp only [Act.put, Array.getInternal_eq_getElem, List.getElem_toArray, List.getElem_cons_succ, List.getElem_cons_zero, List.setIfInBounds_toArray, List.set_cons_zero, List.set_cons_succ])
          refine wpList_load_met 39 (.tmp 36) g (o + k * 41) (h.m.cells h.u h.l) _ (some 37) HR1.out Tryz.underlying39 rfl sizeMsg rfl rfl rfl rfl ?_
          go_wp2_with fail
          refine (rsaid27_walk h.m h.u h.l _ (HF.out.onto HB1.out).up (HF.out.onto HB1.out).left HOK.out).mono ?_
          rintro e w2 ⟨s, rfl, ts, hb2⟩
          have TS := Lib.hid ts
          have HB2 := Lib.hid (HB1.out.trans (hb2.mono HB1.out.size))
          clear ts hb2
          by_cases hm : s.data.toList = msg.data.toList
          · have q1 : (s.toList == msg.toList) = true := by rw [bytesEqB32, decide_eq_true_eq]; exact (Txt.self s).eq hm.symm
            have HM := Lib.hid hm
            clear hm
            go_wp2_with fail
            go_ret
            exact ⟨⟨true, rfl, ⟨fun _ => ⟨k, h, HH.out, by rw [HTG.out, HOK.out]; rfl, by rw [← HM.out]; exact TS.out.symm⟩, fun _ => rfl⟩⟩, HB2.out⟩
          · have q1 : (s.toList == msg.toList) = false := Txt.other (Txt.self _) (Txt.self _) hm
            have HM := Lib.hid hm
            clear hm
            go_wp2_with fail
            go_roundw
            case rel =>
              refine ⟨k + 1, by omega, by go_num, HNX.out ?_, HB2.out⟩
              rintro ⟨h', hh', h1, h2⟩
              rw [HH.out] at hh'
              cases hh'
              exact HM.out (by rw [← h2]; exact TS.out)
            case measure => simp [intOf]; omega
    · obtain rfl : k = n := by omega
      go_wp2_with fail
      go_ret
      refine ⟨⟨false, rfl, ⟨fun h => (by cases h), fun ⟨j, hj⟩ => ?_⟩⟩, HBR.out⟩
      have hj0 := hj
      obtain ⟨y, hy, _⟩ := hj0
      have := (List.getElem?_eq_some_iff.1 hy).1
      exact absurd hj (HNO.out j (by rw [HN.out]; exact this))
end Go.Proofs.YtidekfbgjghcjaaGreat

namespace Go.Proofs.YtidekfbgjghcjaaGreat
set_option linter.unusedSimpArgs false
set_option linter.unusedVariables false
open Go Go.RowKit

theorem results_cell1e {fn : Func} {p : Tmp} {ty : TypeId} {cs : List Value} {d : TypeDesc} (h : fn.results = #[.cell p ty]) (tmps : Array Value) (w : World) {b : Nat} (hb : w.rangeAt b 0 cs) (hp : tmps.getD p undef = .pointer (some ⟨b, 0, none⟩))
    (hu : Tryz.prog.underlying ty = some d) (hd : d.isRow = true) (hi : (Tryz.prog.info? ty).map (·.size) = some cs.length) :
    (results fn tmps).run Tryz.prog w = .ok (.agg cs.toArray) w := by
  have e := run_loadVar_mid (P := Tryz.prog) w b 0 ty cs _ hb hu hd hi
  have e0 : (results fn tmps).run Tryz.prog w = ((asAddr (tmps.getD p undef)).run Tryz.prog w).andThen fun a w₁ => (loadVar ty a).run Tryz.prog w₁ := by
    simp only [results, h]
    simp [Sem.run_bind]
  rw [e0, hp]
  simp only [asAddr, Sem.run_pure, Result.andThen_ok, e]
def RightTwo (root : ByteArray) (first : Int) (l : List Sld) (below epoch : Int) (fa fb fm ft : ByteArray) (e : Ending) : Prop :=
  ∃ q : Bool, e = .returned (.bool q) ∧ (q = true ↔ epoch < below ∧ taggedS root first ⟨2, fa, fb, epoch, fm, ft⟩ [109, 97, 99] = true ∧ ¬ ∃ k, MadeAt l fm.data.toList k)
set_option maxRecDepth 100000 in
set_option maxHeartbeats 4000000 in
theorem right32_two (root : ByteArray) (first : Int) (v vc vh : Value) (l : List Sld) (below : Int) (epoch : Int) (fa fb fm ft : ByteArray) (w : World) (h : SldRow w v l) (hc1 : vc.oneCell' = true) (hh1 : vh.oneCell' = true) (hl : l.length ≤ 1048576) (ht : SldTame l) (hm : fm.size ≤ 16777216) :
    Calls Tryz.prog 22 #[.string root, .int .i64 first, .agg #[v, vc, vh], .int .i64 below, (⟨2, fa, fb, epoch, fm, ft⟩ : Fnd).v] w fun e w' => RightTwo root first l below epoch fa fb fm ft e ∧ Below w.heap.size w w' := by
  obtain ⟨p, c, rfl⟩ := h.shape
  obtain ⟨n, hn⟩ : ∃ n, n = l.length := ⟨_, rfl⟩
  rw [← hn] at h ⊢
  have HR := Lib.hid h
  have HL := Lib.hid hl
  clear h hl hn
  obtain ⟨q, hq⟩ : ∃ q, taggedS root first ⟨2, fa, fb, epoch, fm, ft⟩ [109, 97, 99] = q := ⟨_, rfl⟩
  have HQ := Lib.hid hq
  clear hq
  go_enter Tryz.func22, Tryz.ntmps22
  by_cases hbl : epoch < below
  rotate_left
  · have HBL := Lib.hid hbl
    have hbl' : below ≤ epoch := by omega
    clear hbl
    go_wp2_with (first
      | ((with_reducible refine wpList_box_new 56 (.tmp 2) ([.slice p n c, vc, vh]) (some 7) ?hgd ?ho ?hd ?hx ?_); (case hgd | ho | hd | hx => rfl); (intro b3 w3 l3 B3 e3 z3))
      | ((with_reducible refine wpList_box_new 58 (.tmp 4) ((⟨2, fa, fb, epoch, fm, ft⟩ : Fnd).cells) (some 9) ?hgd ?ho ?hd ?hx ?_); (case hgd | ho | hd | hx => rfl); (intro b5 w5 l5 B5 e5 z5); have c0 := B5.cell (i := 0) rfl; have c3 := B5.cell (i := 3) rfl)
      | fail)
    go_ret
    exact ⟨⟨false, rfl, ⟨fun h => (by cases h), fun h => (by have h1 := h.1; have h2 := HBL.out; omega)⟩⟩, (e3.mono l3).trans (e5.mono (by have := e3.size; omega))⟩
  have HBL := Lib.hid hbl
  have hbl' : epoch < below := hbl
  clear hbl
  go_wp2_with (first
    | ((with_reducible refine wpList_box_new 56 (.tmp 2) ([.slice p n c, vc, vh]) (some 7) ?hgd ?ho ?hd ?hx ?_); (case hgd | ho | hd | hx => rfl); (intro b3 w3 l3 B3 e3 z3))
    | ((with_reducible refine wpList_box_new 58 (.tmp 4) ((⟨2, fa, fb, epoch, fm, ft⟩ : Fnd).cells) (some 9) ?hgd ?ho ?hd ?hx ?_); (case hgd | ho | hd | hx => rfl); (intro b5 w5 l5 B5 e5 z5); have c0 := B5.cell (i := 0) rfl; have c3 := B5.cell (i := 3) rfl)
    | ((with_reducible refine wpList_load_met 58 (.tmp 9) b5 0 ((⟨2, fa, fb, epoch, fm, ft⟩ : Fnd).cells) _ (some 40) (B5).range Tryz.underlying58 rfl sizeFnd ?hg ?ho ?hds ?hx ?_); (case ho | hg | hds | hx => rfl))
    | fail)
  have HX5 := Lib.hid (B3.below e5 (Nat.lt_of_lt_of_le B3.lt l5))
  have HY5 := Lib.hid B5
  have HB5 := Lib.hid (show Below w.heap.size w w5 from (e3.mono l3).trans (e5.mono (by have := e3.size; omega)))
  clear c0 c3 B3 B5 e3 e5 l3 l5 z3 z5
  refine (tagged32_mac root first ⟨2, fa, fb, epoch, fm, ft⟩ _ hm).mono ?_
  rintro e w6 ⟨he, hb6⟩
  rw [HQ.out] at he
  subst he
  have HX6 := Lib.hid (HX5.out.below hb6 HX5.out.lt)
  have HY6 := Lib.hid (HY5.out.below hb6 HY5.out.lt)
  have HB6 := Lib.hid (HB5.out.trans (hb6.mono HB5.out.size))
  clear hb6
  cases q with
  | false =>
    go_wp2_with fail
    go_ret
    exact ⟨⟨false, rfl, ⟨fun h => (by cases h), fun h => (by have := h.2.1; rw [HQ.out] at this; cases this)⟩⟩, HB6.out⟩
  | true =>
    have c0 := HX6.out.cell (i := 0) rfl
    have c4 := HY6.out.cell (i := 4) rfl
    go_wp2_with fail
    refine (made32_walk _ l fm _ (HR.out.below HB6.out (Nat.le_refl _)) HL.out ht).mono ?_
    rintro e w7 ⟨⟨qm, rfl, hqm⟩, hb7⟩
    have HQM := Lib.hid hqm
    have HB7 := Lib.hid (HB6.out.trans (hb7.mono HB6.out.size))
    clear hb7 hqm c0 c4
    cases qm with
    | false =>
      go_wp2_with fail
      go_ret
      exact ⟨⟨true, rfl, ⟨fun _ => ⟨HBL.out, HQ.out, fun h => by have := HQM.out.2 h; cases this⟩, fun _ => rfl⟩⟩, HB7.out⟩
    | true =>
      go_wp2_with fail
      go_ret
      exact ⟨⟨false, rfl, ⟨fun h => (by cases h), fun h => absurd (HQM.out.1 (by trivial)) h.2.2⟩⟩, HB7.out⟩
end Go.Proofs.YtidekfbgjghcjaaGreat

namespace Go.Proofs.YtidekfbgjghcjaaGreat
set_option linter.unusedSimpArgs false
set_option linter.unusedVariables false
open Go Go.RowKit

def RightThree (root : ByteArray) (first : Int) (hs : List Hd) (below epoch : Int) (fa fb fm ft : ByteArray) (e : Ending) : Prop :=
  ∃ q : Bool, e = .returned (.bool q) ∧ (q = true ↔ epoch < below ∧ taggedS root first ⟨3, fa, fb, epoch, fm, ft⟩ [97, 115, 107] = true ∧ ¬ ∃ k, SaidAt hs fm.data.toList k)
set_option maxRecDepth 100000 in
set_option maxHeartbeats 4000000 in
theorem right32_three (root : ByteArray) (first : Int) (v vc vh : Value) (hs : List Hd) (below : Int) (epoch : Int) (fa fb fm ft : ByteArray) (w : World) (h : HdRow w vh hs) (hv1 : v.oneCell' = true) (hc1 : vc.oneCell' = true) (hl : hs.length ≤ 1048576) (hf : HdFits w hs) (hw : HdFew hs) (hm : fm.size ≤ 16777216) :
    Calls Tryz.prog 22 #[.string root, .int .i64 first, .agg #[v, vc, vh], .int .i64 below, (⟨3, fa, fb, epoch, fm, ft⟩ : Fnd).v] w fun e w' => RightThree root first hs below epoch fa fb fm ft e ∧ Below w.heap.size w w' := by
  obtain ⟨p, c, rfl⟩ := h.shape
  obtain ⟨n, hn⟩ : ∃ n, n = hs.length := ⟨_, rfl⟩
  rw [← hn] at h ⊢
  have HR := Lib.hid h
  have HL := Lib.hid hl
  clear h hl hn
  obtain ⟨q, hq⟩ : ∃ q, taggedS root first ⟨3, fa, fb, epoch, fm, ft⟩ [97, 115, 107] = q := ⟨_, rfl⟩
  have HQ := Lib.hid hq
  clear hq
  go_enter Tryz.func22, Tryz.ntmps22
  by_cases hbl : epoch < below
  rotate_left
  · have HBL := Lib.hid hbl
    have hbl' : below ≤ epoch := by omega
    clear hbl
    go_wp2_with (first
      | ((with_reducible refine wpList_box_new 56 (.tmp 2) ([v, vc, .slice p n c]) (some 7) ?hgd ?ho ?hd ?hx ?_); (case hgd | ho | hd | hx => rfl); (intro b3 w3 l3 B3 e3 z3))
      | ((with_reducible refine wpList_box_new 58 (.tmp 4) ((⟨3, fa, fb, epoch, fm, ft⟩ : Fnd).cells) (some 9) ?hgd ?ho ?hd ?hx ?_); (case hgd | ho | hd | hx => rfl); (intro b5 w5 l5 B5 e5 z5); have c0 := B5.cell (i := 0) rfl; have c3 := B5.cell (i := 3) rfl)
      | fail)
    go_ret
    exact ⟨⟨false, rfl, ⟨fun h => (by cases h), fun h => (by have h1 := h.1; have h2 := HBL.out; omega)⟩⟩, (e3.mono l3).trans (e5.mono (by have := e3.size; omega))⟩
  have HBL := Lib.hid hbl
  have hbl' : epoch < below := hbl
  clear hbl
  go_wp2_with (first
    | ((with_reducible refine wpList_box_new 56 (.tmp 2) ([v, vc, .slice p n c]) (some 7) ?hgd ?ho ?hd ?hx ?_); (case hgd | ho | hd | hx => rfl); (intro b3 w3 l3 B3 e3 z3))
    | ((with_reducible refine wpList_box_new 58 (.tmp 4) ((⟨3, fa, fb, epoch, fm, ft⟩ : Fnd).cells) (some 9) ?hgd ?ho ?hd ?hx ?_); (case hgd | ho | hd | hx => rfl); (intro b5 w5 l5 B5 e5 z5); have c0 := B5.cell (i := 0) rfl; have c3 := B5.cell (i := 3) rfl)
    | ((with_reducible refine wpList_load_met 58 (.tmp 9) b5 0 ((⟨3, fa, fb, epoch, fm, ft⟩ : Fnd).cells) _ (some 60) (B5).range Tryz.underlying58 rfl sizeFnd ?hg ?ho ?hds ?hx ?_); (case ho | hg | hds | hx => rfl))
    | fail)
  have HX5 := Lib.hid (B3.below e5 (Nat.lt_of_lt_of_le B3.lt l5))
  have HY5 := Lib.hid B5
  have HB5 := Lib.hid (show Below w.heap.size w w5 from (e3.mono l3).trans (e5.mono (by have := e3.size; omega)))
  clear c0 c3 B3 B5 e3 e5 l3 l5 z3 z5
  refine (tagged32_ask root first ⟨3, fa, fb, epoch, fm, ft⟩ _ hm).mono ?_
  rintro e w6 ⟨he, hb6⟩
  rw [HQ.out] at he
  subst he
  have HX6 := Lib.hid (HX5.out.below hb6 HX5.out.lt)
  have HY6 := Lib.hid (HY5.out.below hb6 HY5.out.lt)
  have HB6 := Lib.hid (HB5.out.trans (hb6.mono HB5.out.size))
  clear hb6
  cases q with
  | false =>
    go_wp2_with fail
    go_ret
    exact ⟨⟨false, rfl, ⟨fun h => (by cases h), fun h => (by have := h.2.1; rw [HQ.out] at this; cases this)⟩⟩, HB6.out⟩
  | true =>
    have c0 := HX6.out.cell (i := 2) rfl
    have c4 := HY6.out.cell (i := 4) rfl
    go_wp2_with fail
    refine (among32_walk _ hs fm _ (HR.out.below HB6.out) HL.out (hf.below HB6.out) hw).mono ?_
    rintro e w7 ⟨⟨qm, rfl, hqm⟩, hb7⟩
    have HQM := Lib.hid hqm
    have HB7 := Lib.hid (HB6.out.trans (hb7.mono HB6.out.size))
    clear hb7 hqm c0 c4
    cases qm with
    | false =>
      go_wp2_with fail
      go_ret
      exact ⟨⟨true, rfl, ⟨fun _ => ⟨HBL.out, HQ.out, fun h => by have := HQM.out.2 h; cases this⟩, fun _ => rfl⟩⟩, HB7.out⟩
    | true =>
      go_wp2_with fail
      go_ret
      exact ⟨⟨false, rfl, ⟨fun h => (by cases h), fun h => absurd (HQM.out.1 (by trivial)) h.2.2⟩⟩, HB7.out⟩
end Go.Proofs.YtidekfbgjghcjaaGreat

