/- Walk of SampleOnce: for every text and numbers the law returns true. No condition. -/
import Derived.Test.YtacoibiafpdoaaaSmp4
import Derived.Test.YtacoibiafpdoaaaG1
namespace Go.Proofs.Ytacoibiafpdoaaa
open Go Go.RowKit
set_option linter.unusedVariables false

theorem swapF_at (g : Nat → Nat) (i k j : Nat) : swapF g i k j = g (if j = i then k else if j = k then i else j) := by
  unfold swapF
  split
  · rfl
  · split <;> rfl
theorem swapF_inj {g : Nat → Nat} {t i k : Nat} (hi : i < t) (hk : k < t) (h : ∀ a b, a < t → b < t → g a = g b → a = b) : ∀ a b, a < t → b < t → swapF g i k a = swapF g i k b → a = b := by
  intro a b ha hb he
  rw [swapF_at, swapF_at] at he
  have hh := h _ _ (by split <;> (try split) <;> omega) (by split <;> (try split) <;> omega) he
  split at hh <;> split at hh <;> (try split at hh) <;> (try split at hh) <;> omega
theorem rowS_inj {s : List UInt8} {t : Nat} (i : Nat) (hi : i ≤ t) : ∀ a b, a < t → b < t → rowS s t i a = rowS s t i b → a = b := by
  induction i with
  | zero => intro a b _ _ h; exact h
  | succ i ih =>
    have hn : numS s i (t - i) < t - i := numS_lt (by omega)
    exact swapF_inj (by omega) (by omega) (ih (by omega))
theorem rowS_kept {s : List UInt8} {t j : Nat} (i : Nat) (hj : j < i) : rowS s t i j = pickX s t j := by
  induction i with
  | zero => omega
  | succ i ih =>
    show swapF (rowS s t i) i (i + numS s i (t - i)) j = _
    unfold swapF
    by_cases h : j = i
    · subst h
      rw [if_pos rfl]
      rfl
    · rw [if_neg h, if_neg (by omega)]
      exact ih (by omega)
theorem pickX_ne {s : List UInt8} {t i j : Nat} (hi : i < t) (hj : j < i) : pickX s t i ≠ pickX s t j := by
  intro he
  rw [← rowS_kept i hj] at he
  have hn : numS s i (t - i) < t - i := numS_lt (by omega)
  have := rowS_inj i (by omega) _ _ (by omega) (by omega) he
  omega
theorem pickS_at {s : List UInt8} {f l : Int} {t m k : Nat} (h : k < m) : (pickS s f l t m)[k]? = some ⟨f + ((pickX s t k : Nat) : Int) / l, ((pickX s t k : Nat) : Int) % l⟩ := by simp [pickS, h]
theorem pickS_take {s : List UInt8} {f l : Int} {t m k : Nat} (h : k ≤ m) : (pickS s f l t m).take k = pickS s f l t k := by
  simp only [pickS, ← List.map_take, List.take_range]
  rw [Nat.min_eq_left h]
theorem AskRow.take {w : World} {p : Option Addr} {n c k : Nat} {xs : List AskD} (h : AskRow w (.slice p n c) xs) (hk : k ≤ xs.length) : AskRow w (.slice p k c) (xs.take k) := by
  rcases h with ⟨rfl, _⟩ | ⟨g, o, c', he, hc, hg, hat⟩
  · simp at hk
    subst hk
    exact .inl ⟨by simp, _, _, rfl⟩
  · simp at he
    obtain ⟨rfl, rfl, rfl⟩ := he
    refine .inr ⟨g, o, c, by rw [List.length_take, Nat.min_eq_left hk], by rw [List.length_take]; omega, hg, fun j x hx => ?_⟩
    rw [List.getElem?_take] at hx
    split at hx
    · exact hat j x hx
    · cases hx
theorem guardAsk : Try.prog.eqGuardType Try.prog.depth 85 = false := by kernel_rfl
theorem eqAskF {x y : AskD} (hne : x ≠ y) (w : World) : (Op.equalIn 10000 85 (.agg x.cells.toArray) (.agg y.cells.toArray)).run Try.prog w = .ok false w := by
  have e : (x.epoch == y.epoch && (x.lba == y.lba && true)) = false := by
    rw [Bool.eq_false_iff]
    intro h
    simp at h
    exact hne (by obtain ⟨a, b⟩ := x; obtain ⟨c, d⟩ := y; simp at h; simp [h])
  rw [← e]
  refine eq_struct (d := 9999) Try.underlying85 (by kernel_rfl) ?_
  refine eqf_int (k := .i64) (d := 9998) (by decide) (by kernel_rfl) (by kernel_rfl) Try.underlying3 ?_
  refine eqf_int (k := .i64) (d := 9998) (by decide) (by kernel_rfl) (by kernel_rfl) Try.underlying3 ?_
  exact eqf_nil
/-- Places of a volume: each is of a closed epoch; two are unlike. -/
theorem place_in {f o l : Int} {t X : Nat} (hr : rightB f o l = true) (ht : totalS f o l = (t : Int)) (hX : X < t) : f ≤ f + (X : Int) / l ∧ f + (X : Int) / l < o ∧ 0 ≤ (X : Int) % l ∧ (X : Int) % l < l := by
  obtain ⟨h1, h2, h3, h4, h5, h6⟩ := rightB_iff.1 hr
  have e : totalS f o l = (o - f) * l := by unfold totalS; rw [if_pos hr]
  have q0 : 0 ≤ (X : Int) / l := Int.ediv_nonneg (by omega) (by omega)
  have q1 : (X : Int) / l < o - f := Int.ediv_lt_of_lt_mul (by omega) (by omega)
  have q2 := Int.emod_nonneg (X : Int) (show l ≠ 0 by omega)
  have q3 := Int.emod_lt_of_pos (X : Int) (show 0 < l by omega)
  omega
theorem place_ne {f l : Int} {X Y : Nat} (hl : 1 ≤ l) (h : X ≠ Y) : ¬ (f + (X : Int) / l = f + (Y : Int) / l ∧ (X : Int) % l = (Y : Int) % l) := by
  rintro ⟨h1, h2⟩
  have e1 := Int.mul_ediv_add_emod (X : Int) l
  have e2 := Int.mul_ediv_add_emod (Y : Int) l
  have e3 : (X : Int) / l = (Y : Int) / l := by omega
  rw [e3, h2] at e1
  omega

set_option maxRecDepth 100000 in
set_option maxHeartbeats 2000000 in
theorem sampleOnce_some (s : ByteArray) (f o l n more : Int) (w : World) (h : ¬ (PickOk s f o l n ∧ PickOk s f o l more ∧ n ≤ more)) :
    Calls Try.prog 19 #[.string s, .int .i64 f, .int .i64 o, .int .i64 l, .int .i64 n, .int .i64 more] w fun e w' => e = .returned (.bool true) ∧ Below w.heap.size w w' := by
  by_cases h1 : PickOk s f o l n
  · obtain ⟨p1, p2, p3, p4⟩ := h1
    obtain ⟨k, rfl⟩ : ∃ k : Nat, n = (k : Int) := ⟨n.toNat, by omega⟩
    obtain ⟨t, ht⟩ : ∃ t : Nat, totalS f o l = (t : Int) := ⟨(totalS f o l).toNat, by have := totalS_bd f o l; omega⟩
    have HT := Lib.hid ht; clear ht
    have P2 := Lib.hid p2; clear p2
    by_cases h2 : PickOk s f o l more
    · obtain ⟨_, _, r3, r4⟩ := h2
      obtain ⟨j, rfl⟩ : ∃ k : Nat, more = (k : Int) := ⟨more.toNat, by omega⟩
      have h3 : (j : Int) < k := by
        by_cases hh : (k : Int) ≤ j
        · exact absurd ⟨⟨p1, P2.out, p3, p4⟩, ⟨p1, P2.out, r3, r4⟩, hh⟩ h
        · omega
      clear h
      go_enter Try.func19, Try.ntmps19
      go_wp2_with fail
      refine (pick38_yes s f o l k t _ _ p1 P2.out (by omega) HT.out rfl).mono ?_
      rintro e w1 ⟨v, rfl, hown, hb1⟩
      obtain ⟨q, d, rfl⟩ := own_shape hown
      clear hown
      go_wp2_with fail
      refine (pick38_yes s f o l j t _ _ p1 P2.out (by omega) HT.out rfl).mono ?_
      rintro e w2 ⟨v2, rfl, hown2, hb2⟩
      obtain ⟨q2, d2, rfl⟩ := own_shape hown2
      clear hown2
      go_wp2_with fail
      refine (alive38 _).mono ?_
      rintro e w4 ⟨rfl, hb4⟩
      go_wp2_with fail
      go_ret
      exact ⟨rfl, bt hb1 (bt hb2 hb4)⟩
    · have H2 := Lib.hid h2; clear h2 h
      go_enter Try.func19, Try.ntmps19
      go_wp2_with fail
      refine (pick38_yes s f o l k t _ _ p1 P2.out (by omega) HT.out rfl).mono ?_
      rintro e w1 ⟨v, rfl, hown, hb1⟩
      obtain ⟨q, d, rfl⟩ := own_shape hown
      clear hown
      go_wp2_with fail
      refine (pick38_no s f o l more _ H2.out).mono ?_
      rintro e w2 ⟨rfl, hb2⟩
      go_wp2_with fail
      refine (alive38 _).mono ?_
      rintro e w4 ⟨rfl, hb4⟩
      go_wp2_with fail
      go_ret
      exact ⟨rfl, bt hb1 (bt hb2 hb4)⟩
  · have H1 := Lib.hid h1; clear h1 h
    have hm : ∃ Q : Ending → World → Prop, (∀ w1, Calls Try.prog 75 #[.string s, .int .i64 f, .int .i64 o, .int .i64 l, .int .i64 more] w1 fun e w' => (∃ (p : Option Addr) (x c : Nat) (y : Int), e = .returned (.tuple #[.slice p x c, .int .i64 y])) ∧ Below w1.heap.size w1 w') := by
      refine ⟨fun _ _ => True, fun w1 => ?_⟩
      by_cases h2 : PickOk s f o l more
      · obtain ⟨p1, p2, p3, p4⟩ := h2
        obtain ⟨j, rfl⟩ : ∃ k : Nat, more = (k : Int) := ⟨more.toNat, by omega⟩
        obtain ⟨t, ht⟩ : ∃ t : Nat, totalS f o l = (t : Int) := ⟨(totalS f o l).toNat, by have := totalS_bd f o l; omega⟩
        refine (pick38_yes s f o l j t _ _ p1 p2 (by omega) ht rfl).mono ?_
        rintro e w2 ⟨v2, rfl, hown2, hb2⟩
        obtain ⟨q2, d2, rfl⟩ := own_shape hown2
        exact ⟨⟨_, _, _, _, rfl⟩, hb2⟩
      · refine (pick38_no s f o l more _ h2).mono ?_
        rintro e w2 ⟨rfl, hb2⟩
        exact ⟨⟨_, _, _, _, rfl⟩, hb2⟩
    obtain ⟨_, hm⟩ := hm
    have HMM := Lib.hid hm; clear hm
    go_enter Try.func19, Try.ntmps19
    go_wp2_with fail
    refine (pick38_no s f o l n _ H1.out).mono ?_
    rintro e w1 ⟨rfl, hb1⟩
    go_wp2_with fail
    refine (HMM.out _).mono ?_
    rintro e w2 ⟨⟨p, x, c, y, rfl⟩, hb2⟩
    go_wp2_with fail
    refine (alive38 _).mono ?_
    rintro e w4 ⟨rfl, hb4⟩
    go_wp2_with fail
    go_ret
    exact ⟨rfl, bt hb1 (bt hb2 hb4)⟩

/-- The rest of SampleOnce: who asks for more is told the same first ones; none twice; all within. -/
def OnceRow (w : World) (v : Value) (s : List UInt8) (f l : Int) (t m : Nat) : Prop := AskRow w v (pickS s f l t m)
theorem OnceRow.below {w w' : World} {v : Value} {s : List UInt8} {f l : Int} {t m : Nat} (h : OnceRow w v s f l t m) (hb : Below w.heap.size w w') : OnceRow w' v s f l t m := AskRow.below h hb (Nat.le_refl _)

set_option maxRecDepth 100000 in
set_option maxHeartbeats 4000000 in
theorem sampleOnce_all (s : ByteArray) (f o l : Int) (n more t m1 m2 : Nat) (w : World) (p1 : (s.size : Int) = 32) (p2 : rightB f o l = true) (p4 : more ≤ 64) (hle : n ≤ more) (ht : totalS f o l = (t : Int)) (hm1 : min n t = m1) (hm2 : min more t = m2) :
    Calls Try.prog 19 #[.string s, .int .i64 f, .int .i64 o, .int .i64 l, .int .i64 (n : Int), .int .i64 (more : Int)] w fun e w' => e = .returned (.bool true) ∧ Below w.heap.size w w' := by
  have hmm : m1 ≤ m2 := by omega
  have hm64 : m2 ≤ 64 := by omega
  have hmt : m2 ≤ t := by omega
  have hmin : min (n : Int) (t : Int) = (m1 : Int) := by omega
  have hle' : (n : Int) ≤ more := by omega
  have hmm' : (m1 : Int) ≤ m2 := by omega
  have hdmm : decide (m2 < m1) = false := by simp; omega
  have HT := Lib.hid ht; clear ht
  have P2 := Lib.hid p2; clear p2
  have HM1 := Lib.hid hm1; clear hm1
  have HM2 := Lib.hid hm2; clear hm2
  go_enter Try.func19, Try.ntmps19
  go_wp2_with fail
  refine (pick38_yes s f o l n t m1 _ p1 P2.out (by omega) HT.out HM1.out).mono ?_
  rintro e w1 ⟨v, rfl, hown, hb1⟩
  obtain ⟨q, d, rfl⟩ := own_shape hown
  have HO := Lib.hid (AskRow.own hown (by rw [pickS_length])); clear hown
  go_wp2_with fail
  refine (pick38_yes s f o l more t m2 _ p1 P2.out p4 HT.out HM2.out).mono ?_
  rintro e w2 ⟨v2, rfl, hown2, hb2⟩
  obtain ⟨q2, d2, hq2⟩ := own_shape hown2
  have hd2 : m2 ≤ d2 := by
    rcases hown2.2 with ⟨h0, h1⟩ | ⟨g, cap, cur, h0, _, _, hc, _⟩
    · omega
    · rw [hq2] at h0; injection h0 with _ _ h0; omega
  subst hq2
  have HO1 := Lib.hid (HO.out.below hb2 (Nat.le_refl _))
  have HO2 : Hid (OnceRow w2 (.slice q2 m2 d2) s.data.toList f l t m2) := Lib.hid (AskRow.own hown2 (by rw [pickS_length]))
  have hbw := bt hb1 hb2
  have HBW := Lib.hid hbw
  clear hown2 HO hb1 hb2 hbw
  have hm1d : (m1 : Int) ≤ d2 := by omega
  go_wp2_with fail
  refine (total38_walk f o l _).mono ?_
  rintro e wB ⟨rfl, rfl⟩
  rw [HT.out]
  go_wp2_with fail
  refine (same38_walk _ _ (pickS s.data.toList f l t m1) _ ?_ HO1.out (by rw [pickS_length]; omega)).mono ?_
  · rw [← pickS_take hmm]
    exact AskRow.take HO2.out (by rw [pickS_length]; exact hmm)
  rintro e w3 ⟨rfl, hb3⟩
  have HO3 := Lib.hid (HO2.out.below hb3)
  have HB3 := Lib.hid (HBW.out.trans (hb3.mono HBW.out.size))
  clear hb3 HO2 HO1 HBW
  go_wp2_with fail
  go_loopw [87] (fun i wr => ∃ k : Nat, k ≤ m2 ∧ i = .int .i64 k ∧ Below w3.heap.size w3 wr) (fun i _ => m2 - (intOf i).toNat)
  case atStart => exact ⟨0, by omega, rfl, Below.refl _ _⟩
  case round =>
    obtain ⟨k, hk, rfl, hbel⟩ := hrel
    by_cases hlt : k < m2
    · have hlt' : (k : Int) < m2 := by omega
      rcases HO3.out with ⟨h0, _⟩ | ⟨g, o', c', hq, hcc, hg, hat⟩
      · have := congrArg List.length h0; rw [pickS_length] at this; simp at this; omega
      have hlen := pickS_length s.data.toList f l t m2
      rw [hlen] at hq
      injection hq with hq1 _ hq3
      subst hq1 hq3
      obtain ⟨E, hE⟩ : ∃ E, f + ((pickX s.data.toList t k : Nat) : Int) / l = E := ⟨_, rfl⟩
      obtain ⟨L, hL⟩ : ∃ L, ((pickX s.data.toList t k : Nat) : Int) % l = L := ⟨_, rfl⟩
      have hin := place_in P2.out HT.out (pickX_lt (s := s.data.toList) (i := k) (t := t) (by omega))
      rw [hE, hL] at hin
      obtain ⟨i1, i2, i3, i4⟩ := hin
      have HE := Lib.hid hE; clear hE
      have HL := Lib.hid hL; clear hL
      have HAT : Hid (∀ (j : Nat) (x : AskD), (pickS s.data.toList f l t m2)[j]? = some x → ∀ (i : Nat) (u : Value), x.cells[i]? = some u → wr.cell? ⟨g, o' + j * 2 + i, none⟩ = some u) := Lib.hid (fun j x hx i u hu => by rw [hbel.cell (by show g < _; exact hg)]; exact hat j x hx i u hu)
      have hk2 : (pickS s.data.toList f l t m2)[k]? = some ⟨E, L⟩ := by rw [pickS_at hlt, HE.out, HL.out]
      have c0 : wr.cell? ⟨g, o' + k * 2, none⟩ = some (.int .i64 E) := HAT.out k _ hk2 0 _ rfl
      have c1 : wr.cell? ⟨g, o' + k * 2 + 1, none⟩ = some (.int .i64 L) := HAT.out k _ hk2 1 _ rfl
      have hgr : g < wr.heap.size := by have := hbel.size; omega
      have hkc : (k : Int) ≤ d2 := by omega
      clear hat hk2 hlen
      go_wp2_with (first
        | ((with_reducible refine wpList_alloc_new 85 (AskD.cells ⟨0, 0⟩) zeroAsk (some 18) ?hgd ?ho ?hd ?_); (case hgd => rfl); (case ho => rfl); (case hd => rfl); (intro b9 w9 l9 B9 e9 z9))
        | ((with_reducible refine wpList_store_new 85 (.tmp 18) (.tmp 91) b9 (AskD.cells ⟨0, 0⟩) (AskD.cells ⟨E, L⟩) 85 B9 rfl rsizeAsk (AskD.cells_one _) ?hgd ?ho ?hx ?hy ?_); (case hgd => rfl); (case ho => rfl); (case hx => rfl); (case hy => rfl); (intro w10 B10 o10); (have a0 := B10.cell (i := 0) rfl); (have a1 := B10.cell (i := 1) rfl))
        | fail)
      have hf10 := o10.below (e9.mono l9) l9
      have hbel10 := hbel.trans (hf10.mono hbel.size)
      have HB10 := Lib.hid hbel10
      have HAT10 : Hid (∀ (j : Nat) (x : AskD), (pickS s.data.toList f l t m2)[j]? = some x → ∀ (i : Nat) (u : Value), x.cells[i]? = some u → w10.cell? ⟨g, o' + j * 2 + i, none⟩ = some u) := Lib.hid (fun j x hx i u hu => by rw [hf10.cell (by show g < _; exact hgr)]; exact HAT.out j x hx i u hu)
      have hg10 : g < w10.heap.size := by have := hf10.size; omega
      have BA := Lib.hid B10
      have hb9 := B10.lt
      clear a0 a1 c0 c1 hbel hbel10 hf10 HAT B9 B10 e9 o10 z9 l9
      go_loopw [117] (fun i wr => ∃ j : Nat, j ≤ k ∧ i = .int .i64 j ∧ Below w10.heap.size w10 wr) (fun i _ => k - (intOf i).toNat)
      case atStart => exact ⟨0, by omega, rfl, Below.refl _ _⟩
      case round =>
        obtain ⟨j, hj, rfl, hbel⟩ := hrel
        by_cases hjk : j < k
        · have hjk' : (j : Int) < k := by omega
          have hne : (⟨E, L⟩ : AskD) ≠ ⟨f + ((pickX s.data.toList t j : Nat) : Int) / l, ((pickX s.data.toList t j : Nat) : Int) % l⟩ := by
            intro he
            injection he with h1 h2
            rw [← HE.out] at h1
            rw [← HL.out] at h2
            exact place_ne (by have := (rightB_iff.1 P2.out).2.2.2.1; exact this) (pickX_ne (s := s.data.toList) (t := t) (i := k) (j := j) (by omega) hjk) ⟨h1, h2⟩
          have hj2 : (pickS s.data.toList f l t m2)[j]? = some ⟨f + ((pickX s.data.toList t j : Nat) : Int) / l, ((pickX s.data.toList t j : Nat) : Int) % l⟩ := pickS_at (by omega)
          obtain ⟨E2, hE2⟩ : ∃ E, f + ((pickX s.data.toList t j : Nat) : Int) / l = E := ⟨_, rfl⟩
          obtain ⟨L2, hL2⟩ : ∃ L, ((pickX s.data.toList t j : Nat) : Int) % l = L := ⟨_, rfl⟩
          rw [hE2, hL2] at hne hj2
          have HNE := Lib.hid hne; clear hne
          have d0 : wr.cell? ⟨g, o' + j * 2, none⟩ = some (.int .i64 E2) := by rw [hbel.cell (by show g < _; exact hg10)]; exact HAT10.out j _ hj2 0 _ rfl
          have d1 : wr.cell? ⟨g, o' + j * 2 + 1, none⟩ = some (.int .i64 L2) := by rw [hbel.cell (by show g < _; exact hg10)]; exact HAT10.out j _ hj2 1 _ rfl
          have BA2 := Lib.hid (BA.out.below hbel hb9)
          have hb92 := BA2.out.lt
          clear hj2 hE2 hL2
          go_wp2_with (first
            | ((with_reducible refine wpList_alloc_new 85 (AskD.cells ⟨0, 0⟩) zeroAsk (some 20) ?hgd ?ho ?hd ?_); (case hgd => rfl); (case ho => rfl); (case hd => rfl); (intro b11 w11 l11 B11 e11 z11))
            | ((with_reducible refine wpList_store_new 85 (.tmp 20) (.tmp 120) b11 (AskD.cells ⟨0, 0⟩) (AskD.cells ⟨E2, L2⟩) 85 B11 rfl rsizeAsk (AskD.cells_one _) ?hgd ?ho ?hx ?hy ?_); (case hgd => rfl); (case ho => rfl); (case hx => rfl); (case hy => rfl); (intro w12 B12 o12); (have f0 := B12.cell (i := 0) rfl); (have f1 := B12.cell (i := 1) rfl); (have hf12 := o12.below (e11.mono l11) l11); (have B9' := BA2.out.below hf12 hb92); (have a0 := B9'.cell (i := 0) rfl); (have a1 := B9'.cell (i := 1) rfl))
            | ((with_reducible refine wpList_eq_agg 85 85 (.tmp 121) (.tmp 122) (AskD.cells ⟨E, L⟩).toArray (AskD.cells ⟨E2, L2⟩).toArray false (some 123) guardAsk (eqAskF HNE.out _) ?hgd ?ho ?hd ?hx ?hy ?_); (case hgd => rfl); (case ho => rfl); (case hd => rfl); (case hx => rfl); (case hy => rfl))
            | fail)
          go_roundw
          case rel => exact ⟨j + 1, by omega, by go_num, hbel.trans (hf12.mono hbel.size)⟩
          case measure => simp [intOf]; omega
        · obtain rfl : j = k := by omega
          go_wp2_with fail
          go_roundw
          case rel => exact ⟨j + 1, by omega, by go_num, HB10.out.trans (hbel.mono HB10.out.size)⟩
          case measure => simp [intOf]; omega
    · obtain rfl : k = m2 := by omega
      go_wp2_with fail
      refine (alive38 _).mono ?_
      rintro e w4 ⟨rfl, hb4⟩
      go_wp2_with fail
      go_ret
      exact ⟨rfl, HB3.out.trans ((hbel.trans (hb4.mono hbel.size)).mono HB3.out.size)⟩

theorem sampleOnce_walk (s : ByteArray) (f o l n more : Int) (w : World) :
    Calls Try.prog 19 #[.string s, .int .i64 f, .int .i64 o, .int .i64 l, .int .i64 n, .int .i64 more] w fun e w' => e = .returned (.bool true) ∧ Below w.heap.size w w' := by
  by_cases h : PickOk s f o l n ∧ PickOk s f o l more ∧ n ≤ more
  · obtain ⟨⟨p1, p2, p3, p4⟩, ⟨_, _, q3, q4⟩, hle⟩ := h
    obtain ⟨k, rfl⟩ : ∃ k : Nat, n = (k : Int) := ⟨n.toNat, by omega⟩
    obtain ⟨j, rfl⟩ : ∃ k : Nat, more = (k : Int) := ⟨more.toNat, by omega⟩
    obtain ⟨t, ht⟩ : ∃ t : Nat, totalS f o l = (t : Int) := ⟨(totalS f o l).toNat, by have := totalS_bd f o l; omega⟩
    exact sampleOnce_all s f o l k j t _ _ w p1 p2 (by omega) (by omega) ht rfl rfl
  · exact sampleOnce_some s f o l n more w h
end Go.Proofs.Ytacoibiafpdoaaa
