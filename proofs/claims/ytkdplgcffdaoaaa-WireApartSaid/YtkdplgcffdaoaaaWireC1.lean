/- Walks of small functions of wire (chapter 27) and of proof (chapter 16): what may be. -/
import Derived.Test.YtkdplgcffdaoaaaWireP9
namespace Go.Proofs.Ytkdplgcffdaoaaa
set_option linter.unusedSimpArgs false
set_option linter.unusedVariables false
open Go Go.RowKit
set_option linter.unusedVariables false

def withinB (n m : Int) : Bool := decide (0 ≤ n) && decide (n ≤ m)
theorem within27_walk (n m : Int) (w : World) : Calls Try.prog 49 #[.int .i64 n, .int .i64 m] w fun e w' => e = .returned (.bool (withinB n m)) ∧ w = w' := by
  by_cases h : 0 ≤ n
  · go_enter Try.func49, Try.ntmps49
    go_wp2_with fail
    go_ret
    exact ⟨by unfold withinB; simp [h], rfl⟩
  · have h' : n < 0 := by omega
    go_enter Try.func49, Try.ntmps49
    go_wp2_with fail
    go_ret
    exact ⟨by unfold withinB; rw [decide_eq_false (show ¬ 0 ≤ n by omega)]; rfl, rfl⟩
theorem place16_walk (n : Int) (w : World) : Calls Try.prog 89 #[.int .i64 n] w fun e w' => e = .returned (.bool (decide (0 ≤ n) && decide (n < 4096))) ∧ w = w' := by
  by_cases h : 0 ≤ n
  · go_enter Try.func89, Try.ntmps89
    go_wp2_with fail
    go_ret
    exact ⟨by simp [h], rfl⟩
  · have h' : n < 0 := by omega
    go_enter Try.func89, Try.ntmps89
    go_wp2_with fail
    go_ret
    exact ⟨by rw [decide_eq_false (show ¬ 0 ≤ n by omega)]; rfl, rfl⟩

set_option maxHeartbeats 1000000 in
theorem wide27_walk (v : Value) (xs : List ByteArray) (w : World) (h : PRow w v xs) (hl : xs.length ≤ 1048576) :
    Calls Try.prog 33 #[v] w fun e w' => e = .returned (.bool (all32 xs)) ∧ w = w' := by
  obtain ⟨n, hn⟩ : ∃ n, n = xs.length := ⟨_, rfl⟩
  have hn2 : n ≤ 1048576 := by omega
  have hall : ∀ k, k ≤ xs.length → (∀ (j : Nat) (s : ByteArray), j < k → xs[j]? = some s → s.size = 32) → (k = xs.length → all32 xs = true) := by
    intro k _ hh hk
    unfold all32
    rw [List.all_eq_true]
    intro s hs
    obtain ⟨j, hj⟩ := List.getElem?_of_mem hs
    have := (List.getElem?_eq_some_iff.1 hj).1
    simpa using hh j s (by omega) hj
  have hbad : ∀ (j : Nat) (s : ByteArray), xs[j]? = some s → s.size ≠ 32 → all32 xs = false := by
    intro j s hj hs
    cases hh : all32 xs with
    | false => rfl
    | true =>
      unfold all32 at hh
      rw [List.all_eq_true] at hh
      have := hh s (List.mem_of_getElem? hj)
      simp at this
      exact absurd this hs
  obtain ⟨p, c, rfl⟩ : ∃ (p : Option Addr) (c : Nat), v = .slice p n c := by
    obtain ⟨p, c, h1⟩ := h.shape
    exact ⟨p, c, by rw [hn]; exact h1⟩
  have HR := Lib.hid h; clear h
  have HN := Lib.hid hn; clear hn hl
  have HA := Lib.hid hall; clear hall
  have HB := Lib.hid hbad; clear hbad
  go_enter Try.func33, Try.ntmps33
  go_wp2_with fail
  go_loop [7] (fun i => ∃ k : Nat, k ≤ n ∧ i = .int .i64 k ∧ ∀ (j : Nat) (s : ByteArray), j < k → xs[j]? = some s → s.size = 32) (fun i => n - (intOf i).toNat)
  case atStart => exact ⟨0, by omega, rfl, fun j s hj => by omega⟩
  case round =>
    obtain ⟨k, hk, rfl, hh⟩ := hrel
    have HH := Lib.hid hh; clear hh
    by_cases hlt : k < n
    · have hlt' : (k : Int) < n := by omega
      have h00 : (0 : Int) ≤ (k : Int) := by omega
      obtain ⟨s, hs⟩ : ∃ s, xs[k]? = some s := ⟨_, List.getElem?_eq_getElem (by rw [← HN.out]; exact hlt)⟩
      rcases HR.out with ⟨h0, _⟩ | ⟨g, o, c', hq, hg, _, hat⟩
      · have := HN.out; rw [h0] at this; simp at this; omega
      rw [← HN.out] at hq
      injection hq with hq1 _ hq3
      subst hq1 hq3
      have hc := hat k s hs
      have HS := Lib.hid hs
      clear hat hs
      by_cases h32 : s.size = 32
      · have d32 : (s.size : Int) = 32 := by omega
        have H32 := Lib.hid h32; clear h32
        go_wp2_with fail
        go_round
        case rel =>
          refine ⟨k + 1, by omega, by go_num, fun j t hj ht => ?_⟩
          by_cases hjk : j = k
          · subst hjk
            rw [HS.out] at ht
            obtain rfl := Option.some.inj ht
            exact H32.out
          · exact HH.out j t (by omega) ht
        case measure => simp [intOf]; omega
      · have d32 : ¬ (s.size : Int) = 32 := by omega
        have e1 := HB.out k s HS.out h32
        have E1 := Lib.hid e1
        clear e1 h32
        go_wp2_with fail
        go_ret
        exact ⟨by rw [E1.out]; rfl, rfl⟩
    · obtain rfl : k = n := by omega
      have e1 := HA.out k (by rw [← HN.out]; omega) HH.out HN.out
      have E1 := Lib.hid e1
      clear e1
      go_wp2_with fail
      go_ret
      exact ⟨by rw [E1.out]; rfl, rfl⟩
theorem strRow_one {w : World} {g : Nat} {x : ByteArray} {t : TypeId} (h : Blk w g [.string x] t) : PRow w (.slice (some ⟨g, 0, none⟩) 1 1) [x] :=
  .inr ⟨g, 0, 1, rfl, h.lt, fun hm => (by cases hm), fun j y hy => by
    have hj := (List.getElem?_eq_some_iff.1 hy).1
    obtain rfl : j = 0 := by simp at hj; omega
    simp at hy
    subst hy
    exact h.cell rfl⟩
theorem all32_one (x : ByteArray) : all32 [x] = decide (x.size = 32) := by simp [all32]

set_option maxHeartbeats 1000000 in
theorem ask27_walk (e l : Int) (w : World) :
    Calls Try.prog 52 #[.agg #[.int .i64 e, .int .i64 l]] w fun r w' => r = .returned (.bool (askOk e l)) ∧ Below w.heap.size w w' := by
  cases h : withinB e 4294967295 with
  | false =>
    have H := Lib.hid h; clear h
    go_enter Try.func52, Try.ntmps52
    go_wp2_with (go_at_call 49; refine (within27_walk e 4294967295 _).mono ?_; rintro r w1 ⟨rfl, rfl⟩; rw [H.out])
    go_ret
    refine ⟨?_, (Below.refl _ _).alloc (Nat.le_refl _) _⟩
    have := H.out
    unfold withinB at this
    unfold askOk epochOk
    rw [this]; rfl
  | true =>
    have H := Lib.hid h; clear h
    go_enter Try.func52, Try.ntmps52
    go_wp2_with fail
    refine (within27_walk e 4294967295 _).mono ?_
    rintro r w1 ⟨rfl, rfl⟩
    rw [H.out]
    go_wp2_with fail
    refine (within27_walk l 4095 _).mono ?_
    rintro r w1 ⟨rfl, rfl⟩
    go_wp2_with fail
    go_ret
    refine ⟨?_, (Below.refl _ _).alloc (Nat.le_refl _) _⟩
    have := H.out
    unfold withinB at this ⊢
    unfold askOk epochOk
    rw [this]; simp
/-- A leaf, said. -/
def pleafL (x : LeafD) : List UInt8 := if leafSaid x then beBytes 4 x.lba.toNat ++ x.hash.data.toList else []
set_option maxRecDepth 100000 in
set_option maxHeartbeats 1000000 in
theorem psaid_walk (x : LeafD) (w : World) (hx : x.hash.size ≤ 1048576) :
    Calls Try.prog 81 #[x.v] w fun r w' => ∃ s, r = .returned (.string s) ∧ Txt s (pleafL x) ∧ Below w.heap.size w w' := by
  obtain ⟨n, h⟩ := x
  unfold LeafD.v
  cases hp : (decide (0 ≤ n) && decide (n < 4096)) with
  | false =>
    have HF := Lib.hid (show pleafL ⟨n, h⟩ = [] by unfold pleafL leafSaid; simp only [hp]; rfl)
    have H := Lib.hid hp; clear hp
    go_enter Try.func81, Try.ntmps81
    go_wp2_with (go_at_call 89; refine (place16_walk n _).mono ?_; rintro r w1 ⟨rfl, rfl⟩; rw [H.out])
    go_ret
    refine ⟨_, rfl, ?_, (Below.refl _ _).alloc (Nat.le_refl _) _⟩
    rw [HF.out]; rfl
  | true =>
    have H := Lib.hid hp
    simp only [Bool.and_eq_true, decide_eq_true_eq] at hp
    obtain ⟨m, rfl⟩ : ∃ m : Nat, n = (m : Int) := ⟨n.toNat, by omega⟩
    have hm : m < 4096 := by omega
    clear hp
    by_cases h32 : h.size = 32
    · have d32 : (h.size : Int) = 32 := by omega
      have HF := Lib.hid (show pleafL ⟨(m : Int), h⟩ = beBytes 4 m ++ h.data.toList by unfold pleafL leafSaid; simp only [H.out, d32]; simp)
      clear h32
      go_enter Try.func81, Try.ntmps81
      go_wp2_with ((with_reducible refine wpList_box_new 29 (.tmp 0) [.int .i64 (m : Int), .string h] (some 1) ?hgd ?ho ?hd ?hx ?_); (case hgd => rfl); (case ho => rfl); (case hd => rfl); (case hx => rfl); (intro b w0 l0 B0 e0 z0; have c0 := B0.cell (i := 0) rfl; have c1 := B0.cell (i := 1) rfl))
      refine (place16_walk m _).mono ?_
      rintro r w1 ⟨rfl, rfl⟩
      rw [H.out]
      go_wp2_with fail
      refine (oput m 4 _ (by omega) (by omega) (by omega) (fun _ => by omega)).mono ?_
      rintro r w2 ⟨r2, rfl, tr, hb2⟩
      have B2 := B0.below hb2 B0.lt
      have c12 := B2.cell (i := 1) rfl
      have hr : r2.size ≤ 4 := by rw [tr.size, beBytes_length]; omega
      have TR := Lib.hid tr
      have HB := Lib.hid ((e0.mono l0).trans (hb2.mono (by have := e0.size; omega)))
      clear tr hb2 B2 c0 c1
      go_wp2_with fail
      go_ret
      refine ⟨_, rfl, (TR.out.append (Txt.self h)).cast HF.out.symm, HB.out⟩
    · have d32 : ¬ (h.size : Int) = 32 := by omega
      have HF := Lib.hid (show pleafL ⟨(m : Int), h⟩ = [] by unfold pleafL leafSaid; simp only [H.out, d32]; simp)
      clear h32
      go_enter Try.func81, Try.ntmps81
      go_wp2_with (go_at_call 89; refine (place16_walk m _).mono ?_; rintro r w1 ⟨rfl, rfl⟩; rw [H.out])
      go_ret
      refine ⟨_, rfl, ?_, (Below.refl _ _).alloc (Nat.le_refl _) _⟩
      rw [HF.out]; rfl
theorem pleafL_nil (x : LeafD) : pleafL x = [] ↔ leafSaid x = false := by
  unfold pleafL
  cases leafSaid x with
  | false => simp
  | true =>
    simp only [if_true, reduceCtorEq, iff_false]
    intro h
    have := congrArg List.length h
    rw [List.length_append, beBytes_length] at this
    simp at this
set_option maxHeartbeats 1000000 in
theorem leaf27_walk (x : LeafD) (w : World) (hx : x.hash.size ≤ 1048576) :
    Calls Try.prog 67 #[x.v] w fun r w' => r = .returned (.bool (leafOk x)) ∧ Below w.heap.size w w' := by
  cases hz : decide (x = LeafD.zero) with
  | true =>
    have HZ := Lib.hid hz
    have HF := Lib.hid (show leafOk x = true by unfold leafOk; rw [hz]; rfl)
    clear hz
    go_enter Try.func67, Try.ntmps67
    go_wp2_with (first
      | ((with_reducible refine wpList_box_new 29 (.tmp 0) x.cells (some 1) ?hgd ?ho ?hd ?hx ?_); (case hgd => rfl); (case ho => rfl); (case hd => rfl); (case hx => rfl); (intro b w0 l0 B0 e0 z0))
      | ((with_reducible refine wpList_load_met 29 (.tmp 1) b 0 x.cells _ (some 3) B0.range Try.underlying29 rfl rsizeLeaf ?hg ?ho ?hds ?hx ?_); (case hg => rfl); (case ho => rfl); (case hds => rfl); (case hx => rfl))
      | ((with_reducible refine wpList_eq_agg 29 29 (.tmp 3) (.tmp 4) x.cells.toArray LeafD.zero.cells.toArray _ (some 5) guardLeaf (eqLeaf x LeafD.zero _) ?hgd ?ho ?hd ?hx ?hy ?_); (case hgd => rfl); (case ho => rfl); (case hd => rfl); (case hx => rfl); (case hy => rfl); rw [HZ.out])
      | fail)
    go_ret
    exact ⟨by rw [HF.out]; rfl, e0.mono l0⟩
  | false =>
    have HZ := Lib.hid hz
    have HF := Lib.hid (show leafOk x = leafSaid x by unfold leafOk; rw [hz]; rfl)
    clear hz
    go_enter Try.func67, Try.ntmps67
    go_wp2_with (first
      | ((with_reducible refine wpList_box_new 29 (.tmp 0) x.cells (some 1) ?hgd ?ho ?hd ?hx ?_); (case hgd => rfl); (case ho => rfl); (case hd => rfl); (case hx => rfl); (intro b w0 l0 B0 e0 z0))
      | ((with_reducible refine wpList_load_met 29 (.tmp 1) b 0 x.cells _ (some 3) B0.range Try.underlying29 rfl rsizeLeaf ?hg ?ho ?hds ?hx ?_); (case hg => rfl); (case ho => rfl); (case hds => rfl); (case hx => rfl))
      | ((with_reducible refine wpList_eq_agg 29 29 (.tmp 3) (.tmp 4) x.cells.toArray LeafD.zero.cells.toArray _ (some 5) guardLeaf (eqLeaf x LeafD.zero _) ?hgd ?ho ?hd ?hx ?hy ?_); (case hgd => rfl); (case ho => rfl); (case hd => rfl); (case hx => rfl); (case hy => rfl); rw [HZ.out])
      | ((with_reducible refine wpList_load_met 29 (.tmp 1) b 0 x.cells _ (some 7) B0.range Try.underlying29 rfl rsizeLeaf ?hg ?ho ?hds ?hx ?_); (case hg => rfl); (case ho => rfl); (case hds => rfl); (case hx => rfl))
      | fail)
    refine (psaid_walk x _ hx).mono ?_
    rintro r w1 ⟨s, rfl, ts, hb1⟩
    have HB := Lib.hid ((e0.mono l0).trans (hb1.mono (by have := e0.size; omega)))
    cases hs : leafSaid x with
    | true =>
      have k : (s.toList == []) = false := by rw [ts.toList]; have h := (pleafL_nil x); rw [hs] at h; simpa using h
      have HS := Lib.hid hs
      clear ts hb1 hs e0 B0
      go_wp2_with fail
      go_ret
      exact ⟨by rw [HF.out, HS.out]; rfl, HB.out⟩
    | false =>
      have k : (s.toList == []) = true := by rw [ts.toList, (pleafL_nil x).2 hs]; rfl
      have HS := Lib.hid hs
      clear ts hb1 hs e0 B0
      go_wp2_with fail
      go_ret
      exact ⟨by rw [HF.out, HS.out]; rfl, HB.out⟩
end Go.Proofs.Ytkdplgcffdaoaaa
