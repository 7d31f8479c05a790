/- Walk of ReceiptMakes: for every row of sealed records, every number and every receipt the law returns true. No condition. -/
import Derived.Test.YtacoibiafpdoaaaG10
import Derived.Test.YtacoibiafpdoaaaG9
namespace Go.Proofs.Ytacoibiafpdoaaa
open Go Go.RowKit
set_option linter.unusedVariables false

theorem fresh {w w4 w5 : World} {b : Nat} (e4 : Below b w w4) (l4 : w.heap.size ≤ b) (o5 : Only b w4 w5) : Below w.heap.size w w5 := o5.below (e4.mono l4) l4
theorem allS_le (l : List Sld) (k n : Nat) (h : k ≤ n) : ∃ z, allS l n = allS l k ++ z := by
  induction n with
  | zero => obtain rfl : k = 0 := by omega
            exact ⟨[], by simp⟩
  | succ n ih =>
    by_cases hk : k = n + 1
    · subst hk; exact ⟨[], by simp⟩
    · obtain ⟨z, hz⟩ := ih (by omega)
      rw [allS_succ, hz]
      exact ⟨_, by rw [List.append_assoc]⟩
theorem allS_at {l : List Sld} {k n : Nat} (h : k < n) (hg : (makeS l (k : Int)).2 = 0) : (allS l n)[(allS l k).length]? = some (makeS l (k : Int)).1 := by
  obtain ⟨z, hz⟩ := allS_le l (k + 1) n (by omega)
  rw [hz, allS_succ, if_pos hg]
  simp
theorem allS_up {l : List Sld} {k : Nat} : (allS l (k + 1)).length = (allS l k).length + if (makeS l (k : Int)).2 = 0 then 1 else 0 := by
  rw [allS_succ]
  split <;> simp
theorem flatR_at (ys : List Rcp) : ∀ (j : Nat) (y : Rcp), ys[j]? = some y → ∀ (i : Nat) (u : Value), y.cells[i]? = some u → (flatR ys)[j * 11 + i]? = some u := by
  induction ys with
  | nil => intro j y h; simp at h
  | cons a r ih =>
    intro j y h i u hu
    have ha : a.cells.length = 11 := rfl
    show (a.cells ++ flatR r)[_]? = _
    cases j with
    | zero =>
      simp at h
      subst h
      have := (List.getElem?_eq_some_iff.1 hu).1
      rw [List.getElem?_append_left (by omega), Nat.zero_mul, Nat.zero_add]
      exact hu
    | succ j =>
      rw [List.getElem?_append_right (by omega), ha, show (j + 1) * 11 + i - 11 = j * 11 + i by omega]
      exact ih j y (by simpa using h) i u hu
theorem rcp_eq_lit {x y : Rcp} {b : Bool} (h : rcpEq y x = b) : rcpEq ⟨y.seq, ⟨y.r.kind, y.r.epoch, y.r.time, y.r.count, y.r.target, y.r.till, y.r.root, y.r.name⟩, y.was, y.tag⟩ ⟨x.seq, ⟨x.r.kind, x.r.epoch, x.r.time, x.r.count, x.r.target, x.r.till, x.r.root, x.r.name⟩, x.was, x.tag⟩ = b := h


set_option maxRecDepth 100000 in
set_option maxHeartbeats 4000000 in
theorem receiptMakes_few (v : Value) (l : List Sld) (i : Int) (x : Rcp) (w : World) (h : SldRow w v l) (hf : ¬ (fewS l = true ∧ fewRcp x = true)) :
    Calls Try.prog 4 #[v, .int .i64 i, x.v] w fun e w' => e = .returned (.bool true) ∧ Below w.heap.size w w' := by
  obtain ⟨p, c, rfl⟩ := h.shape
  obtain ⟨n, hn⟩ : ∃ n, n = l.length := ⟨_, rfl⟩
  rw [← hn] at h ⊢
  have HR := Lib.hid h; clear h hn
  have HF := Lib.hid hf; clear hf
  go_enter Try.func4, Try.ntmps4
  go_wp2_with ((with_reducible refine wpList_box_new 34 (.tmp 2) x.cells (some 5) ?hgd ?ho ?hd ?hx ?_); (case hgd => rfl); (case ho => rfl); (case hd => rfl); (case hx => rfl); (intro b w0 l0 B0 e0 z0); have R0 := Lib.hid (RcpAt.blk B0))
  refine (few20_walk _ l _ (HR.out.below e0 l0)).mono ?_
  rintro e w1 ⟨rfl, hb1⟩
  obtain ⟨a0, a1, a2, a3, a4, a5, a6, a7, a8, a9, aA⟩ := (R0.out.below hb1 z0).cells_
  have hbw := (e0.mono l0).trans (hb1.mono (by have := e0.size; omega))
  cases h1 : fewS l with
  | false =>
    have H1 := Lib.hid h1; clear h1
    clear a0 a1 a2 a3 a4 a5 a6 a7 a8 a9 aA
    go_wp2_with fail
    refine (alive21 _).mono ?_
    rintro e w3 ⟨rfl, hb3⟩
    go_wp2_with fail
    go_ret
    exact ⟨rfl, hbw.trans (hb3.mono hbw.size)⟩
  | true =>
    have H1 := Lib.hid h1; clear h1
    go_wp2_with fail
    clear a0 a1 a2 a3 a4 a5 a6 a7 a8 a9 aA
    refine (few21_walk x _).mono ?_
    rintro e w2 ⟨rfl, hb2⟩
    cases h2 : fewRcp x with
    | true => exact absurd ⟨H1.out, h2⟩ HF.out
    | false =>
      have H2 := Lib.hid h2; clear h2
      go_wp2_with fail
      refine (alive21 _).mono ?_
      rintro e w3 ⟨rfl, hb3⟩
      go_wp2_with fail
      go_ret
      exact ⟨rfl, hbw.trans ((bt hb2 hb3).mono hbw.size)⟩


set_option maxRecDepth 100000 in
set_option maxHeartbeats 8000000 in
theorem receiptMakes_walk (v : Value) (l : List Sld) (i : Int) (x : Rcp) (w : World) (h : SldRow w v l) (hf1 : fewS l = true) (hf2 : fewRcp x = true) (hl : l.length ≤ 1048576) (ht : SldTame l) (hroot : x.r.root.size ≤ 1048576) (hname : x.r.name.size ≤ 1048576) (hwas : x.was.size ≤ 1048576) (hfe : Fits x.r.epoch) (hfs : Fits x.seq) :
    Calls Try.prog 4 #[v, .int .i64 i, x.v] w fun e w' => e = .returned (.bool true) ∧ Below w.heap.size w w' := by
  obtain ⟨p, c, rfl⟩ := h.shape
  obtain ⟨n, hn⟩ : ∃ n, n = l.length := ⟨_, rfl⟩
  rw [← hn] at h ⊢
  have HR := Lib.hid h; clear h
  have HN := Lib.hid hn; clear hn
  have HL := Lib.hid hl; clear hl
  have HT := Lib.hid ht; clear ht
  have H1 := Lib.hid hf1; clear hf1
  have H2 := Lib.hid hf2; clear hf2
  have hn2 : n ≤ 1048576 := by have := HN.out; have := HL.out; omega
  go_enter Try.func4, Try.ntmps4
  go_wp2_with ((with_reducible refine wpList_box_new 34 (.tmp 2) x.cells (some 5) ?hgd ?ho ?hd ?hx ?_); (case hgd => rfl); (case ho => rfl); (case hd => rfl); (case hx => rfl); (intro b w0 l0 B0 e0 z0); have R0 := Lib.hid (RcpAt.blk B0))
  refine (few20_walk _ l _ (HR.out.below e0 l0)).mono ?_
  rintro e w1 ⟨rfl, hb1⟩
  rw [H1.out]
  have R1 := R0.out.below hb1 z0
  obtain ⟨a0, a1, a2, a3, a4, a5, a6, a7, a8, a9, aA⟩ := R1.cells_
  have R1 := Lib.hid R1
  have hbw := (e0.mono l0).trans (hb1.mono (by have := e0.size; omega))
  clear hb1 B0 e0 l0 z0 R0
  go_wp2_with fail
  clear a0 a1 a2 a3 a4 a5 a6 a7 a8 a9 aA
  refine (few21_walk x _).mono ?_
  rintro e w2 ⟨rfl, hb2⟩
  rw [H2.out]
  have hbw := hbw.trans (hb2.mono hbw.size)
  have R2 := Lib.hid (R1.out.below hb2 R1.out.lt)
  clear hb2 R1
  go_wp2_with fail
  refine (make_walk _ l i _ (HR.out.below hbw (Nat.le_refl _)) HL.out HT.out).mono ?_
  rintro e w3 ⟨he, hb3⟩
  unfold MakeEnd at he
  subst he
  have hbw := hbw.trans (hb3.mono hbw.size)
  have R3 := Lib.hid (R2.out.below hb3 R2.out.lt)
  clear hb3 R2
  obtain ⟨m, hm⟩ : ∃ m, makeS l i = m := ⟨_, rfl⟩
  rw [hm]
  have HM := Lib.hid hm; clear hm
  obtain ⟨y, en⟩ := m
  go_wp2_with (first
    | ((with_reducible refine wpList_alloc_new 34 Rcp.zero.cells zeroRcp (some 7) ?hgd ?ho ?hd ?_); (case hgd => rfl); (case ho => rfl); (case hd => rfl); (intro b7 w4 l4 B4 e4 z4))
    | ((with_reducible refine wpList_store_new 34 (.tmp 7) (.tmp 37) b7 Rcp.zero.cells y.cells 34 B4 rfl rsizeRcp (Rcp.cells_one _) ?hgd ?ho ?hx ?hy ?_); (case hgd => rfl); (case ho => rfl); (case hx => rfl); (case hy => rfl); (intro w5 B5 o5)) | fail)
  have hf5 := fresh e4 l4 o5
  have hbw := hbw.trans (hf5.mono hbw.size)
  have R5 := Lib.hid (R3.out.below hf5 R3.out.lt)
  have Y5 := Lib.hid (RcpAt.blk B5)
  clear hf5 B4 e4 l4 z4 o5 B5 R3
  refine (rmake_walk _ l i _ (HR.out.below hbw (Nat.le_refl _)) HL.out HT.out).mono ?_
  rintro e w6 ⟨he, hb6⟩
  unfold MakeEnd at he
  rw [HM.out] at he
  subst he
  have hbw := hbw.trans (hb6.mono hbw.size)
  have R6 := Lib.hid (R5.out.below hb6 R5.out.lt)
  have Y6 := Lib.hid (Y5.out.below hb6 Y5.out.lt)
  clear hb6 R5 Y5
  go_wp2_with (first
    | ((with_reducible refine wpList_alloc_new 34 Rcp.zero.cells zeroRcp (some 9) ?hgd ?ho ?hd ?_); (case hgd => rfl); (case ho => rfl); (case hd => rfl); (intro b9 w7 l7 B7 e7 z7))
    | ((with_reducible refine wpList_store_new 34 (.tmp 9) (.tmp 43) b9 Rcp.zero.cells y.cells 34 B7 rfl rsizeRcp (Rcp.cells_one _) ?hgd ?ho ?hx ?hy ?_); (case hgd => rfl); (case ho => rfl); (case hx => rfl); (case hy => rfl); (intro w8 B8 o8); (have hf8 := fresh e7 l7 o8); (obtain ⟨a0, a1, a2, a3, a4, a5, a6, a7, a8, a9, aA⟩ := (Y6.out.below hf8 Y6.out.lt).cells_); (obtain ⟨c0, c1, c2, c3, c4, c5, c6, c7, c8, c9, cA⟩ := (RcpAt.blk B8).cells_))
    | ((with_reducible refine wpList_neq_agg 34 34 (.tmp 45) (.tmp 46) y.cells.toArray y.cells.toArray _ (some 47) guardRcp (eqRcpT y _) ?hgd ?ho ?hd ?hx ?hy ?_); (case hgd => rfl); (case ho => rfl); (case hd => rfl); (case hx => rfl); (case hy => rfl)) | fail)
  have hbw := hbw.trans (hf8.mono hbw.size)
  have R8 := Lib.hid (R6.out.below hf8 R6.out.lt)
  clear a0 a1 a2 a3 a4 a5 a6 a7 a8 a9 aA c0 c1 c2 c3 c4 c5 c6 c7 c8 c9 cA hf8 B7 e7 l7 z7 o8 B8 R6 Y6
  refine (all21_walk _ l _ (HR.out.below hbw (Nat.le_refl _)) HL.out HT.out).mono ?_
  rintro e w9 ⟨vo, rfl, hown, hb9⟩
  have hbw := hbw.trans (hb9.mono hbw.size)
  have R9 := Lib.hid (R8.out.below hb9 R8.out.lt)
  clear hb9 R8
  obtain ⟨q, d, rfl⟩ := own_shape hown
  obtain ⟨N, hN⟩ : ∃ N, N = (allS l n).length := ⟨_, rfl⟩
  have hown' : w9.ownsRow w8.heap.size 34 11 (.slice q N d) N (flatR (allS l n)) := by rw [hN, HN.out]; exact hown
  have hNN : (allS l l.length).length = N := by rw [hN, HN.out]
  rw [hNN]
  have HO := Lib.hid hown'
  have HNA := Lib.hid hN
  have hNn : N ≤ n := by rw [hN]; exact allS_len l n
  clear hown hown' hN hNN
  have HBW := Lib.hid hbw
  clear hbw
  go_wp2_with fail
  go_loopw [12, 57] (fun a k wr => ∃ k' : Nat, k' ≤ n ∧ k = .int .i64 k' ∧ a = .int .i64 ((allS l k').length : Nat) ∧ Below w9.heap.size w9 wr) (fun _ k _ => n - (intOf k).toNat)
  case atStart => exact ⟨0, by omega, rfl, rfl, Below.refl _ _⟩
  case round =>
    obtain ⟨k, hk, rfl, rfl, hbel⟩ := hrel
    obtain ⟨m, hm⟩ : ∃ m, m = (allS l k).length := ⟨_, rfl⟩
    rw [← hm]
    have hmk : m ≤ k := by rw [hm]; exact allS_len l k
    have HMM := Lib.hid hm; clear hm
    have hbr := HBW.out.trans (hbel.mono HBW.out.size)
    by_cases hlt : k < n
    · have hlt' : (k : Int) < n := by omega
      go_wp2_with fail
      refine (rmake_walk _ l k _ (HR.out.below hbr (Nat.le_refl _)) HL.out HT.out).mono ?_
      rintro e w10 ⟨he, hb10⟩
      unfold MakeEnd at he
      subst he
      obtain ⟨m1, hm1⟩ : ∃ m, makeS l k = m := ⟨_, rfl⟩
      rw [hm1]
      have HM1 := Lib.hid hm1; clear hm1
      obtain ⟨z, eg⟩ := m1
      have hbel10 := hbel.trans (hb10.mono hbel.size)
      by_cases hg : eg = 0
      · subst hg
        have hg0 : (makeS l (k : Int)).2 = 0 := by rw [HM1.out]
        have hup : (allS l (k + 1)).length = m + 1 := by rw [allS_up, if_pos hg0, HMM.out]
        have hat : (allS l n)[m]? = some z := by rw [HMM.out, allS_at hlt hg0, HM1.out]
        have hmN : m < N := by rw [HNA.out]; exact (List.getElem?_eq_some_iff.1 hat).1
        obtain ⟨g, d', zz, hq, hNd, hgb, hblk⟩ := own_split HO.out (by omega)
        injection hq with hq _ hq2
        subst hq hq2
        have hmN' : (m : Int) < N := by omega
        have hgw : g < w9.heap.size := hblk.lt
        have HCELL : Hid (∀ i u, z.cells[i]? = some u → w9.cell? ⟨g, m * 11 + i, none⟩ = some u) := Lib.hid (fun i u hu => by
          refine hblk.cell ?_
          have h1 := flatR_at _ m z hat i u hu
          rw [List.getElem?_append_left (List.getElem?_eq_some_iff.1 h1).1]
          exact h1)
        have HUP := Lib.hid hup
        clear hup hat hg0 hblk
        go_wp2_with (first
    | ((with_reducible refine wpList_alloc_new 34 Rcp.zero.cells zeroRcp (some 14) ?hgd ?ho ?hd ?_); (case hgd => rfl); (case ho => rfl); (case hd => rfl); (intro b14 w11 l11 B11 e11 z11))
          | ((with_reducible refine wpList_store_new 34 (.tmp 14) (.tmp 64) b14 Rcp.zero.cells z.cells 34 B11 rfl rsizeRcp (Rcp.cells_one _) ?hgd ?ho ?hx ?hy ?_); (case hgd => rfl); (case ho => rfl); (case hx => rfl); (case hy => rfl); (intro w12 B12 o12)) | fail)
        have hbel12 := hbel10.trans ((fresh e11 l11 o12).mono hbel10.size)
        have hcc : ∀ i u, z.cells[i]? = some u → w12.cell? ⟨g, m * 11 + i, none⟩ = some u := fun i u hu => by rw [hbel12.cell (by show g < _; exact hgw)]; exact HCELL.out i u hu
        have d0 : w12.cell? ⟨g, m * 11, none⟩ = some (.int .i64 z.seq) := hcc 0 _ rfl
        have d1 := hcc 1 _ rfl
        have d2 := hcc 2 _ rfl
        have d3 := hcc 3 _ rfl
        have d4 := hcc 4 _ rfl
        have d5 := hcc 5 _ rfl
        have d6 := hcc 6 _ rfl
        have d7 := hcc 7 _ rfl
        have d8 := hcc 8 _ rfl
        have d9 := hcc 9 _ rfl
        have dA := hcc 10 _ rfl
        obtain ⟨c0, c1, c2, c3, c4, c5, c6, c7, c8, c9, cA⟩ := (RcpAt.blk B12).cells_
        have hge : ¬ ((N : Int) ≤ (m : Int)) := by omega
        have hge' : ¬ (N ≤ m) := by omega
        have hdec : decide ((N : Int) ≤ (m : Int)) = false := by simpa using hmN
        have hdec' : decide (N ≤ m) = false := by simpa using hmN
        clear hcc
        go_wp2_with fail
        go_quiet (fail)
        go_wp2_with fail
        go_roundw
        case rel => exact ⟨k + 1, by omega, by go_num, by rw [HUP.out]; go_num, Below.drewN hbel12 _⟩
        case measure => simp [intOf]; omega
      · have hup : (allS l (k + 1)).length = m := by rw [allS_up, HM1.out, if_neg hg, HMM.out, Nat.add_zero]
        have HUP := Lib.hid hup
        clear hup
        go_wp2_with (first
          | ((with_reducible refine wpList_alloc_new 34 Rcp.zero.cells zeroRcp (some 14) ?hgd ?ho ?hd ?_); (case hgd => rfl); (case ho => rfl); (case hd => rfl); (intro b14 w11 l11 B11 e11 z11))
          | ((with_reducible refine wpList_store_new 34 (.tmp 14) (.tmp 64) b14 Rcp.zero.cells z.cells 34 B11 rfl rsizeRcp (Rcp.cells_one _) ?hgd ?ho ?hx ?hy ?_); (case hgd => rfl); (case ho => rfl); (case hx => rfl); (case hy => rfl); (intro w12 B12 o12)) | fail)
        have hbel12 := hbel10.trans ((fresh e11 l11 o12).mono hbel10.size)
        go_roundw
        case rel => exact ⟨k + 1, by omega, by go_num, by rw [HUP.out], hbel12⟩
        case measure => simp [intOf]; omega
    · obtain rfl : k = n := by omega
      obtain rfl : m = N := by rw [HMM.out, HNA.out]
      have RX := Lib.hid (R9.out.below hbel R9.out.lt)
      have Hbr := Lib.hid hbr
      have hwr : wr.heap.size ≤ wr.heap.size := Nat.le_refl _
      clear hbel hbr R9
      obtain ⟨a0, _, _, _, _, _, _, _, _, _, _⟩ := RX.out.cells_
      go_wp2_with fail
      clear a0
      refine (rmake_walk _ l x.seq _ (HR.out.below Hbr.out (Nat.le_refl _)) HL.out HT.out).mono ?_
      rintro e w10 ⟨he, hb10⟩
      unfold MakeEnd at he
      subst he
      obtain ⟨m2, hm2⟩ : ∃ m, makeS l x.seq = m := ⟨_, rfl⟩
      have hof : ofS l x = (decide (m2.2 = 0) && decide (m2.1 = x)) := by rw [← hm2]; rfl
      rw [hm2]
      have HOF := Lib.hid hof; clear hof hm2
      obtain ⟨z, eg⟩ := m2
      have Hb10 := Lib.hid (Hbr.out.trans (hb10.mono Hbr.out.size))
      have RX10 := Lib.hid (RX.out.below hb10 RX.out.lt)
      clear hb10 hwr
      go_wp2_with (first
        | ((with_reducible refine wpList_alloc_new 34 Rcp.zero.cells zeroRcp (some 16) ?hgd ?ho ?hd ?_); (case hgd => rfl); (case ho => rfl); (case hd => rfl); (intro b16 w11 l11 B11 e11 z11))
        | ((with_reducible refine wpList_store_new 34 (.tmp 16) (.tmp 88) b16 Rcp.zero.cells z.cells 34 B11 rfl rsizeRcp (Rcp.cells_one _) ?hgd ?ho ?hx ?hy ?_); (case hgd => rfl); (case ho => rfl); (case hx => rfl); (case hy => rfl); (intro w12 B12 o12); (have hf12 := fresh e11 l11 o12); (have RX12 := Lib.hid (RX10.out.below hf12 RX10.out.lt)); (obtain ⟨a0, a1, a2, a3, a4, a5, a6, a7, a8, a9, aA⟩ := RX12.out.cells_)) | fail)
      have Hb12 := Lib.hid (Hb10.out.trans (hf12.mono Hb10.out.size))
      have RO12 := Lib.hid (RcpAt.blk B12)
      clear a0 a1 a2 a3 a4 a5 a6 a7 a8 a9 aA hf12 B11 B12 o12 e11 l11 z11 Hb10 RX10 Hbr RX
      refine (forge_walk _ l x _ (HR.out.below Hb12.out (Nat.le_refl _)) HL.out HT.out hroot hname hfe hfs).mono ?_
      rintro e w13 ⟨he, hb13⟩
      have Hb13 := Lib.hid (Hb12.out.trans (hb13.mono Hb12.out.size))
      have RX13 := Lib.hid (RX12.out.below hb13 RX12.out.lt)
      have RO13 := Lib.hid (RO12.out.below hb13 RO12.out.lt)
      clear hb13 RX12 RO12 Hb12
      have HFO := HOF.out
      have hcase : (eg ≠ 0 ∧ ofS l x = false) ∨ (eg = 0 ∧ z ≠ x ∧ ofS l x = false) ∨ (eg = 0 ∧ z = x ∧ ofS l x = true) := by
        by_cases g1 : eg = 0
        · by_cases g2 : z = x
          · exact .inr (.inr ⟨g1, g2, by rw [HFO]; simp [g1, g2]⟩)
          · exact .inr (.inl ⟨g1, g2, by rw [HFO]; simp [g2]⟩)
        · exact .inl ⟨g1, by rw [HFO]; simp [g1]⟩
      clear HFO HOF
      rcases hcase with ⟨g1, g3⟩ | ⟨g1, g2, g3⟩ | ⟨g1, g2, g3⟩
      rotate_left
      · subst g1
        have HNE := Lib.hid g2
        have HG := Lib.hid g3; clear g3 g2
        cases hok : rcpOk x
        all_goals
          have HK := Lib.hid hok; clear hok
          rcases he with ⟨hfs1, s, rfl, ts⟩ | ⟨hfs1, rfl⟩
          all_goals first
            | (exfalso; unfold forgeS at hfs1; rw [HG.out, HK.out] at hfs1; exact absurd hfs1 (by decide))
            | skip
        · clear hfs1
          obtain ⟨a0, a1, a2, a3, a4, a5, a6, a7, a8, a9, aA⟩ := RX13.out.cells_
          go_wp2_with fail
          clear a0 a1 a2 a3 a4 a5 a6 a7 a8 a9 aA
          refine (right21_walk x _).mono ?_
          rintro e w14 ⟨rfl, hb14⟩
          rw [HK.out]
          have Hb14 := Lib.hid (Hb13.out.trans (hb14.mono Hb13.out.size))
          have RX14 := Lib.hid (RX13.out.below hb14 RX13.out.lt)
          have RO14 := Lib.hid (RO13.out.below hb14 RO13.out.lt)
          obtain ⟨a0, a1, a2, a3, a4, a5, a6, a7, a8, a9, aA⟩ := RX14.out.cells_
          obtain ⟨c0, c1, c2, c3, c4, c5, c6, c7, c8, c9, cA⟩ := RO14.out.cells_
          clear hb14 Hb13 RX13 RO13
          go_wp2_with ((with_reducible refine wpList_neq_agg 34 34 (.tmp 103) (.tmp 104) z.cells.toArray x.cells.toArray _ (some 105) guardRcp (eqRcpF HNE.out _) ?hgd ?ho ?hd ?hx ?hy ?_); (case hgd => rfl); (case ho => rfl); (case hd => rfl); (case hx => rfl); (case hy => rfl))
          clear a0 a1 a2 a3 a4 a5 a6 a7 a8 a9 aA c0 c1 c2 c3 c4 c5 c6 c7 c8 c9 cA
          refine (rcsaid_walk x.was x.seq x.r _ hroot hname hfe hfs hwas).mono ?_
          rintro e w15 ⟨he2, hb15⟩
          have Hb15 := Lib.hid (Hb14.out.trans (hb15.mono Hb14.out.size))
          have RX15 := Lib.hid (RX14.out.below hb15 RX14.out.lt)
          have RO15 := Lib.hid (RO14.out.below hb15 RO14.out.lt)
          clear hb15 Hb14 RX14 RO14
          obtain ⟨r, rb, rfl⟩ : ∃ (r : ByteArray) (rb : Bool), e = .returned (.tuple #[.string r, .bool rb]) := by
            rcases he2 with ⟨_, r, rfl, _⟩ | ⟨_, rfl⟩
            · exact ⟨_, _, rfl⟩
            · exact ⟨_, _, rfl⟩
          obtain ⟨a0, a1, a2, a3, a4, a5, a6, a7, a8, a9, aA⟩ := RX15.out.cells_
          go_wp2_with fail
          clear a0 a1 a2 a3 a4 a5 a6 a7 a8 a9 aA
          refine (of21_walk _ l x _ (HR.out.below Hb15.out (Nat.le_refl _)) HL.out HT.out).mono ?_
          rintro e w16 ⟨rfl, hb16⟩
          rw [HG.out]
          have Hb16 := Lib.hid (Hb15.out.trans (hb16.mono Hb15.out.size))
          obtain ⟨a0, a1, a2, a3, a4, a5, a6, a7, a8, a9, aA⟩ := (RX15.out.below hb16 RX15.out.lt).cells_
          obtain ⟨c0, c1, c2, c3, c4, c5, c6, c7, c8, c9, cA⟩ := (RO15.out.below hb16 RO15.out.lt).cells_
          clear hb16 Hb15 RX15 RO15
          go_wp2_with ((with_reducible refine wpList_eq_agg 34 34 (.tmp 158) (.tmp 159) z.cells.toArray x.cells.toArray _ (some 160) guardRcp (eqRcpF HNE.out _) ?hgd ?ho ?hd ?hx ?hy ?_); (case hgd => rfl); (case ho => rfl); (case hd => rfl); (case hx => rfl); (case hy => rfl))
          refine (alive21 _).mono ?_
          rintro e w17 ⟨rfl, hb17⟩
          go_wp2_with fail
          go_ret
          exact ⟨rfl, Hb16.out.trans (hb17.mono Hb16.out.size)⟩
        · clear hfs1
          obtain ⟨a0, a1, a2, a3, a4, a5, a6, a7, a8, a9, aA⟩ := RX13.out.cells_
          go_wp2_with fail
          clear a0 a1 a2 a3 a4 a5 a6 a7 a8 a9 aA
          refine (right21_walk x _).mono ?_
          rintro e w14 ⟨rfl, hb14⟩
          rw [HK.out]
          have Hb14 := Lib.hid (Hb13.out.trans (hb14.mono Hb13.out.size))
          have RX14 := Lib.hid (RX13.out.below hb14 RX13.out.lt)
          have RO14 := Lib.hid (RO13.out.below hb14 RO13.out.lt)
          obtain ⟨a0, a1, a2, a3, a4, a5, a6, a7, a8, a9, aA⟩ := RX14.out.cells_
          obtain ⟨c0, c1, c2, c3, c4, c5, c6, c7, c8, c9, cA⟩ := RO14.out.cells_
          clear hb14 Hb13 RX13 RO13
          go_wp2_with ((with_reducible refine wpList_neq_agg 34 34 (.tmp 103) (.tmp 104) z.cells.toArray x.cells.toArray _ (some 105) guardRcp (eqRcpF HNE.out _) ?hgd ?ho ?hd ?hx ?hy ?_); (case hgd => rfl); (case ho => rfl); (case hd => rfl); (case hx => rfl); (case hy => rfl))
          clear a0 a1 a2 a3 a4 a5 a6 a7 a8 a9 aA c0 c1 c2 c3 c4 c5 c6 c7 c8 c9 cA
          refine (rcsaid_walk x.was x.seq x.r _ hroot hname hfe hfs hwas).mono ?_
          rintro e w15 ⟨he2, hb15⟩
          have Hb15 := Lib.hid (Hb14.out.trans (hb15.mono Hb14.out.size))
          have RX15 := Lib.hid (RX14.out.below hb15 RX14.out.lt)
          have RO15 := Lib.hid (RO14.out.below hb15 RO14.out.lt)
          clear hb15 Hb14 RX14 RO14
          obtain ⟨r, rfl, tr⟩ := he2.yes (rcpOk_said HK.out)
          have e1 : (s.toList == r.toList) = true := ts.same tr rfl
          clear ts tr
          obtain ⟨a0, a1, a2, a3, a4, a5, a6, a7, a8, a9, aA⟩ := RX15.out.cells_
          go_wp2_with fail
          clear a0 a1 a2 a3 a4 a5 a6 a7 a8 a9 aA
          refine (of21_walk _ l x _ (HR.out.below Hb15.out (Nat.le_refl _)) HL.out HT.out).mono ?_
          rintro e w16 ⟨rfl, hb16⟩
          rw [HG.out]
          have Hb16 := Lib.hid (Hb15.out.trans (hb16.mono Hb15.out.size))
          obtain ⟨a0, a1, a2, a3, a4, a5, a6, a7, a8, a9, aA⟩ := (RX15.out.below hb16 RX15.out.lt).cells_
          obtain ⟨c0, c1, c2, c3, c4, c5, c6, c7, c8, c9, cA⟩ := (RO15.out.below hb16 RO15.out.lt).cells_
          clear hb16 Hb15 RX15 RO15
          go_wp2_with ((with_reducible refine wpList_eq_agg 34 34 (.tmp 158) (.tmp 159) z.cells.toArray x.cells.toArray _ (some 160) guardRcp (eqRcpF HNE.out _) ?hgd ?ho ?hd ?hx ?hy ?_); (case hgd => rfl); (case ho => rfl); (case hd => rfl); (case hx => rfl); (case hy => rfl))
          refine (alive21 _).mono ?_
          rintro e w17 ⟨rfl, hb17⟩
          go_wp2_with fail
          go_ret
          exact ⟨rfl, Hb16.out.trans (hb17.mono Hb16.out.size)⟩
      · subst g1 g2
        have HG := Lib.hid g3; clear g3
        cases hok : rcpOk z
        all_goals
          have HK := Lib.hid hok; clear hok
          rcases he with ⟨hfs1, s, rfl, ts⟩ | ⟨hfs1, rfl⟩
          all_goals first
            | (exfalso; unfold forgeS at hfs1; rw [HG.out, HK.out] at hfs1; exact absurd hfs1 (by decide))
            | skip
        · clear hfs1
          obtain ⟨a0, a1, a2, a3, a4, a5, a6, a7, a8, a9, aA⟩ := RX13.out.cells_
          go_wp2_with fail
          clear a0 a1 a2 a3 a4 a5 a6 a7 a8 a9 aA
          refine (right21_walk z _).mono ?_
          rintro e w14 ⟨rfl, hb14⟩
          rw [HK.out]
          have Hb14 := Lib.hid (Hb13.out.trans (hb14.mono Hb13.out.size))
          have RX14 := Lib.hid (RX13.out.below hb14 RX13.out.lt)
          have RO14 := Lib.hid (RO13.out.below hb14 RO13.out.lt)
          obtain ⟨a0, a1, a2, a3, a4, a5, a6, a7, a8, a9, aA⟩ := RX14.out.cells_
          obtain ⟨c0, c1, c2, c3, c4, c5, c6, c7, c8, c9, cA⟩ := RO14.out.cells_
          clear hb14 Hb13 RX13 RO13
          go_wp2_with ((with_reducible refine wpList_neq_agg 34 34 (.tmp 103) (.tmp 104) z.cells.toArray z.cells.toArray _ (some 105) guardRcp (eqRcpT z _) ?hgd ?ho ?hd ?hx ?hy ?_); (case hgd => rfl); (case ho => rfl); (case hd => rfl); (case hx => rfl); (case hy => rfl))
          clear a0 a1 a2 a3 a4 a5 a6 a7 a8 a9 aA c0 c1 c2 c3 c4 c5 c6 c7 c8 c9 cA
          refine (rcsaid_walk z.was z.seq z.r _ hroot hname hfe hfs hwas).mono ?_
          rintro e w15 ⟨he2, hb15⟩
          have Hb15 := Lib.hid (Hb14.out.trans (hb15.mono Hb14.out.size))
          have RX15 := Lib.hid (RX14.out.below hb15 RX14.out.lt)
          have RO15 := Lib.hid (RO14.out.below hb15 RO14.out.lt)
          clear hb15 Hb14 RX14 RO14
          obtain ⟨r, rb, rfl⟩ : ∃ (r : ByteArray) (rb : Bool), e = .returned (.tuple #[.string r, .bool rb]) := by
            rcases he2 with ⟨_, r, rfl, _⟩ | ⟨_, rfl⟩
            · exact ⟨_, _, rfl⟩
            · exact ⟨_, _, rfl⟩
          obtain ⟨a0, a1, a2, a3, a4, a5, a6, a7, a8, a9, aA⟩ := RX15.out.cells_
          go_wp2_with fail
          clear a0 a1 a2 a3 a4 a5 a6 a7 a8 a9 aA
          refine (of21_walk _ l z _ (HR.out.below Hb15.out (Nat.le_refl _)) HL.out HT.out).mono ?_
          rintro e w16 ⟨rfl, hb16⟩
          rw [HG.out]
          have Hb16 := Lib.hid (Hb15.out.trans (hb16.mono Hb15.out.size))
          obtain ⟨a0, a1, a2, a3, a4, a5, a6, a7, a8, a9, aA⟩ := (RX15.out.below hb16 RX15.out.lt).cells_
          obtain ⟨c0, c1, c2, c3, c4, c5, c6, c7, c8, c9, cA⟩ := (RO15.out.below hb16 RO15.out.lt).cells_
          clear hb16 Hb15 RX15 RO15
          go_wp2_with ((with_reducible refine wpList_eq_agg 34 34 (.tmp 158) (.tmp 159) z.cells.toArray z.cells.toArray _ (some 160) guardRcp (eqRcpT z _) ?hgd ?ho ?hd ?hx ?hy ?_); (case hgd => rfl); (case ho => rfl); (case hd => rfl); (case hx => rfl); (case hy => rfl))
          refine (alive21 _).mono ?_
          rintro e w17 ⟨rfl, hb17⟩
          go_wp2_with fail
          go_ret
          exact ⟨rfl, Hb16.out.trans (hb17.mono Hb16.out.size)⟩
        · clear hfs1
          obtain ⟨a0, a1, a2, a3, a4, a5, a6, a7, a8, a9, aA⟩ := RX13.out.cells_
          go_wp2_with fail
          clear a0 a1 a2 a3 a4 a5 a6 a7 a8 a9 aA
          refine (right21_walk z _).mono ?_
          rintro e w14 ⟨rfl, hb14⟩
          rw [HK.out]
          have Hb14 := Lib.hid (Hb13.out.trans (hb14.mono Hb13.out.size))
          have RX14 := Lib.hid (RX13.out.below hb14 RX13.out.lt)
          have RO14 := Lib.hid (RO13.out.below hb14 RO13.out.lt)
          obtain ⟨a0, a1, a2, a3, a4, a5, a6, a7, a8, a9, aA⟩ := RX14.out.cells_
          obtain ⟨c0, c1, c2, c3, c4, c5, c6, c7, c8, c9, cA⟩ := RO14.out.cells_
          clear hb14 Hb13 RX13 RO13
          go_wp2_with ((with_reducible refine wpList_neq_agg 34 34 (.tmp 103) (.tmp 104) z.cells.toArray z.cells.toArray _ (some 105) guardRcp (eqRcpT z _) ?hgd ?ho ?hd ?hx ?hy ?_); (case hgd => rfl); (case ho => rfl); (case hd => rfl); (case hx => rfl); (case hy => rfl))
          clear a0 a1 a2 a3 a4 a5 a6 a7 a8 a9 aA c0 c1 c2 c3 c4 c5 c6 c7 c8 c9 cA
          refine (rcsaid_walk z.was z.seq z.r _ hroot hname hfe hfs hwas).mono ?_
          rintro e w15 ⟨he2, hb15⟩
          have Hb15 := Lib.hid (Hb14.out.trans (hb15.mono Hb14.out.size))
          have RX15 := Lib.hid (RX14.out.below hb15 RX14.out.lt)
          have RO15 := Lib.hid (RO14.out.below hb15 RO14.out.lt)
          clear hb15 Hb14 RX14 RO14
          obtain ⟨r, rb, rfl⟩ : ∃ (r : ByteArray) (rb : Bool), e = .returned (.tuple #[.string r, .bool rb]) := by
            rcases he2 with ⟨_, r, rfl, _⟩ | ⟨_, rfl⟩
            · exact ⟨_, _, rfl⟩
            · exact ⟨_, _, rfl⟩
          obtain ⟨a0, a1, a2, a3, a4, a5, a6, a7, a8, a9, aA⟩ := RX15.out.cells_
          go_wp2_with fail
          clear a0 a1 a2 a3 a4 a5 a6 a7 a8 a9 aA
          refine (of21_walk _ l z _ (HR.out.below Hb15.out (Nat.le_refl _)) HL.out HT.out).mono ?_
          rintro e w16 ⟨rfl, hb16⟩
          rw [HG.out]
          have Hb16 := Lib.hid (Hb15.out.trans (hb16.mono Hb15.out.size))
          obtain ⟨a0, a1, a2, a3, a4, a5, a6, a7, a8, a9, aA⟩ := (RX15.out.below hb16 RX15.out.lt).cells_
          obtain ⟨c0, c1, c2, c3, c4, c5, c6, c7, c8, c9, cA⟩ := (RO15.out.below hb16 RO15.out.lt).cells_
          clear hb16 Hb15 RX15 RO15
          go_wp2_with ((with_reducible refine wpList_eq_agg 34 34 (.tmp 158) (.tmp 159) z.cells.toArray z.cells.toArray _ (some 160) guardRcp (eqRcpT z _) ?hgd ?ho ?hd ?hx ?hy ?_); (case hgd => rfl); (case ho => rfl); (case hd => rfl); (case hx => rfl); (case hy => rfl))
          refine (alive21 _).mono ?_
          rintro e w17 ⟨rfl, hb17⟩
          go_wp2_with fail
          go_ret
          exact ⟨rfl, Hb16.out.trans (hb17.mono Hb16.out.size)⟩
      · have HG := Lib.hid g3; clear g3
        cases hok : rcpOk x
        all_goals
          have HK := Lib.hid hok; clear hok
          rcases he with ⟨hfs1, s, rfl, ts⟩ | ⟨hfs1, rfl⟩
          all_goals first
            | (exfalso; unfold forgeS at hfs1; rw [HG.out, HK.out] at hfs1; exact absurd hfs1 (by decide))
            | skip
        · clear hfs1
          obtain ⟨a0, a1, a2, a3, a4, a5, a6, a7, a8, a9, aA⟩ := RX13.out.cells_
          go_wp2_with fail
          clear a0 a1 a2 a3 a4 a5 a6 a7 a8 a9 aA
          refine (right21_walk x _).mono ?_
          rintro e w14 ⟨rfl, hb14⟩
          rw [HK.out]
          have Hb14 := Lib.hid (Hb13.out.trans (hb14.mono Hb13.out.size))
          have RX14 := Lib.hid (RX13.out.below hb14 RX13.out.lt)
          have RO14 := Lib.hid (RO13.out.below hb14 RO13.out.lt)
          obtain ⟨a0, a1, a2, a3, a4, a5, a6, a7, a8, a9, aA⟩ := RX14.out.cells_
          obtain ⟨c0, c1, c2, c3, c4, c5, c6, c7, c8, c9, cA⟩ := RO14.out.cells_
          clear hb14 Hb13 RX13 RO13
          go_wp2_with fail
          clear a0 a1 a2 a3 a4 a5 a6 a7 a8 a9 aA c0 c1 c2 c3 c4 c5 c6 c7 c8 c9 cA
          refine (rcsaid_walk x.was x.seq x.r _ hroot hname hfe hfs hwas).mono ?_
          rintro e w15 ⟨he2, hb15⟩
          have Hb15 := Lib.hid (Hb14.out.trans (hb15.mono Hb14.out.size))
          have RX15 := Lib.hid (RX14.out.below hb15 RX14.out.lt)
          have RO15 := Lib.hid (RO14.out.below hb15 RO14.out.lt)
          clear hb15 Hb14 RX14 RO14
          obtain ⟨r, rb, rfl⟩ : ∃ (r : ByteArray) (rb : Bool), e = .returned (.tuple #[.string r, .bool rb]) := by
            rcases he2 with ⟨_, r, rfl, _⟩ | ⟨_, rfl⟩
            · exact ⟨_, _, rfl⟩
            · exact ⟨_, _, rfl⟩
          obtain ⟨a0, a1, a2, a3, a4, a5, a6, a7, a8, a9, aA⟩ := RX15.out.cells_
          go_wp2_with fail
          clear a0 a1 a2 a3 a4 a5 a6 a7 a8 a9 aA
          refine (of21_walk _ l x _ (HR.out.below Hb15.out (Nat.le_refl _)) HL.out HT.out).mono ?_
          rintro e w16 ⟨rfl, hb16⟩
          rw [HG.out]
          have Hb16 := Lib.hid (Hb15.out.trans (hb16.mono Hb15.out.size))
          obtain ⟨a0, a1, a2, a3, a4, a5, a6, a7, a8, a9, aA⟩ := (RX15.out.below hb16 RX15.out.lt).cells_
          obtain ⟨c0, c1, c2, c3, c4, c5, c6, c7, c8, c9, cA⟩ := (RO15.out.below hb16 RO15.out.lt).cells_
          clear hb16 Hb15 RX15 RO15
          go_wp2_with fail
          refine (alive21 _).mono ?_
          rintro e w17 ⟨rfl, hb17⟩
          go_wp2_with fail
          go_ret
          exact ⟨rfl, Hb16.out.trans (hb17.mono Hb16.out.size)⟩
        · clear hfs1
          obtain ⟨a0, a1, a2, a3, a4, a5, a6, a7, a8, a9, aA⟩ := RX13.out.cells_
          go_wp2_with fail
          clear a0 a1 a2 a3 a4 a5 a6 a7 a8 a9 aA
          refine (right21_walk x _).mono ?_
          rintro e w14 ⟨rfl, hb14⟩
          rw [HK.out]
          have Hb14 := Lib.hid (Hb13.out.trans (hb14.mono Hb13.out.size))
          have RX14 := Lib.hid (RX13.out.below hb14 RX13.out.lt)
          have RO14 := Lib.hid (RO13.out.below hb14 RO13.out.lt)
          obtain ⟨a0, a1, a2, a3, a4, a5, a6, a7, a8, a9, aA⟩ := RX14.out.cells_
          obtain ⟨c0, c1, c2, c3, c4, c5, c6, c7, c8, c9, cA⟩ := RO14.out.cells_
          clear hb14 Hb13 RX13 RO13
          go_wp2_with fail
          clear a0 a1 a2 a3 a4 a5 a6 a7 a8 a9 aA c0 c1 c2 c3 c4 c5 c6 c7 c8 c9 cA
          refine (rcsaid_walk x.was x.seq x.r _ hroot hname hfe hfs hwas).mono ?_
          rintro e w15 ⟨he2, hb15⟩
          have Hb15 := Lib.hid (Hb14.out.trans (hb15.mono Hb14.out.size))
          have RX15 := Lib.hid (RX14.out.below hb15 RX14.out.lt)
          have RO15 := Lib.hid (RO14.out.below hb15 RO14.out.lt)
          clear hb15 Hb14 RX14 RO14
          obtain ⟨r, rfl, tr⟩ := he2.yes (rcpOk_said HK.out)
          have e1 : (s.toList == r.toList) = true := ts.same tr rfl
          clear ts tr
          obtain ⟨a0, a1, a2, a3, a4, a5, a6, a7, a8, a9, aA⟩ := RX15.out.cells_
          go_wp2_with fail
          clear a0 a1 a2 a3 a4 a5 a6 a7 a8 a9 aA
          refine (of21_walk _ l x _ (HR.out.below Hb15.out (Nat.le_refl _)) HL.out HT.out).mono ?_
          rintro e w16 ⟨rfl, hb16⟩
          rw [HG.out]
          have Hb16 := Lib.hid (Hb15.out.trans (hb16.mono Hb15.out.size))
          obtain ⟨a0, a1, a2, a3, a4, a5, a6, a7, a8, a9, aA⟩ := (RX15.out.below hb16 RX15.out.lt).cells_
          obtain ⟨c0, c1, c2, c3, c4, c5, c6, c7, c8, c9, cA⟩ := (RO15.out.below hb16 RO15.out.lt).cells_
          clear hb16 Hb15 RX15 RO15
          go_wp2_with fail
          refine (alive21 _).mono ?_
          rintro e w17 ⟨rfl, hb17⟩
          go_wp2_with fail
          go_ret
          exact ⟨rfl, Hb16.out.trans (hb17.mono Hb16.out.size)⟩

theorem receiptMakes_law (v : Value) (l : List Sld) (i : Int) (x : Rcp) (w : World) (hv : SldsIn w v l) (hx : RcpFits x) :
    Calls Try.prog 4 #[v, .int .i64 i, x.v] w fun e w' => e = .returned (.bool true) ∧ Below w.heap.size w w' := by
  by_cases hf : fewS l = true ∧ fewRcp x = true
  · have h2 := hf.2
    simp only [fewRcp, fewR, Bool.and_eq_true, decide_eq_true_eq] at h2
    refine receiptMakes_walk v l i x w hv.row hf.1 hf.2 (by have := fewS_len hf.1; omega) ?_ (by omega) (by omega) (by omega) hx.r.epoch hx.seq
    intro j y hy
    have := fewS_each hf.1 j y hy
    exact ⟨by omega, by omega, by omega, (hv.fits j y hy).epoch⟩
  · exact receiptMakes_few v l i x w hv.row hf
end Go.Proofs.Ytacoibiafpdoaaa
