/- Walk of the documents' Few (chapter 20). -/
import Derived.Test.YtacoibiafpdoaaaOpen3
import Derived.Deep.QuietTactic
import Derived.BigQuiet
namespace Go.Proofs.Ytacoibiafpdoaaa
open Go Go.RowKit
set_option linter.unusedVariables false

def fewOne (x : Sld) : Nat := min x.tag.size 10000 + min x.r.root.size 10000 + min x.r.name.size 10000
/-- How many bytes sealed records have, of the first hundred. -/
def fewN (l : List Sld) : Nat := ((l.take 100).map fewOne).sum
/-- Are sealed records so few, of so few bytes? -/
def fewS (l : List Sld) : Bool := decide (l.length ≤ 60) && decide (fewN l ≤ 9000)
theorem fewN_snoc (l : List Sld) (k : Nat) (x : Sld) (h : l[k]? = some x) : ((l.take (k + 1)).map fewOne).sum = ((l.take k).map fewOne).sum + fewOne x := by
  obtain ⟨h1, rfl⟩ := List.getElem?_eq_some_iff.1 h
  rw [List.take_succ_eq_append_getElem h1, List.map_append, List.sum_append]
  simp only [List.map_cons, List.map_nil, List.sum_cons, List.sum_nil, Nat.add_zero]
theorem sum_mem_le (l : List Nat) (x : Nat) (h : x ∈ l) : x ≤ l.sum := by
  induction l with
  | nil => simp at h
  | cons a r ih =>
    rw [List.sum_cons]
    rcases List.mem_cons.1 h with rfl | h
    · omega
    · have := ih h; omega
theorem fewS_each {l : List Sld} (h : fewS l = true) (j : Nat) (x : Sld) (hx : l[j]? = some x) : x.tag.size ≤ 9000 ∧ x.r.root.size ≤ 9000 ∧ x.r.name.size ≤ 9000 := by
  simp only [fewS, Bool.and_eq_true, decide_eq_true_eq] at h
  have h1 : fewN l = (l.map fewOne).sum := by unfold fewN; rw [List.take_of_length_le (by omega)]
  have h2 := sum_mem_le (l.map fewOne) (fewOne x) (List.mem_map_of_mem (List.mem_of_getElem? hx))
  rw [h1] at h
  have : fewOne x ≤ 9000 := by omega
  unfold fewOne at this
  omega
theorem fewS_len {l : List Sld} (h : fewS l = true) : l.length ≤ 60 := by
  simp only [fewS, Bool.and_eq_true, decide_eq_true_eq] at h
  exact h.1

set_option maxRecDepth 100000 in
set_option maxHeartbeats 2000000 in
theorem few20_walk (v : Value) (l : List Sld) (w : World) (h : SldRow w v l) :
    Calls Try.prog 27 #[v] w fun e w' => e = .returned (.bool (fewS l)) ∧ Below w.heap.size w w' := by
  rcases h with ⟨rfl, p, c, rfl⟩ | ⟨g, o, c, rfl, _, hg, hc⟩
  · go_enter Try.func27, Try.ntmps27
    go_wp2_with fail
    go_loop [3, 4] (fun n i => n = .int .i64 0 ∧ i = .int .i64 0) (fun _ _ => 0)
    case atStart => exact ⟨rfl, rfl⟩
    case round =>
      obtain ⟨rfl, rfl⟩ := hrel
      go_wp2_with fail
      go_ret
      exact ⟨rfl, Below.refl _ _⟩
  have HC := Lib.hid hc; clear hc
  obtain ⟨n, Hn⟩ : ∃ n, Hid (n = l.length) := ⟨_, rfl⟩
  obtain ⟨N, HN⟩ : ∃ N, Hid (N = min n 100) := ⟨_, rfl⟩
  have hN1 : N ≤ 100 := by rw [HN.out]; omega
  have hN2 : N ≤ n := by rw [HN.out]; omega
  rw [← Hn.out]
  go_enter Try.func27, Try.ntmps27
  go_wp2_with fail
  go_loopw [3, 4] (fun vn vi wr => ∃ k m : Nat, k ≤ N ∧ vi = .int .i64 k ∧ vn = .int .i64 m ∧ m = ((l.take k).map fewOne).sum ∧ m ≤ 30000 * k ∧ Below w.heap.size w wr) (fun _ vi _ => N - (intOf vi).toNat)
  case atStart => exact ⟨0, 0, by omega, rfl, rfl, rfl, by omega, Below.refl _ _⟩
  case round =>
    obtain ⟨k, m, hk, rfl, rfl, hm, hm2, hbel⟩ := hrel
    have HM := Lib.hid hm; clear hm
    by_cases hlt : k < N
    · have hlt' : (k : Int) < n := by omega
      have hk100 : (k : Int) < 100 := by omega
      have h0 : (0 : Int) ≤ (k : Int) := by omega
      obtain ⟨x, hxk⟩ : ∃ r, l[k]? = some r := ⟨_, List.getElem?_eq_getElem (by rw [← Hn.out]; omega)⟩
      have hrange : wr.rangeAt g (o + k * 9) x.cells := fun j u hu => by rw [hbel.cell (by show g < w.heap.size; exact hg)]; exact HC.out k x hxk j u hu
      have hs := fewN_snoc l k x hxk
      obtain ⟨⟨kind, epoch, time, count, target, till, root, name⟩, tag⟩ := x
      obtain ⟨a, ha⟩ : ∃ a : Nat, min (tag.size : Int) 10000 = (a : Int) := ⟨min tag.size 10000, by omega⟩
      obtain ⟨b, hb⟩ : ∃ a : Nat, min (root.size : Int) 10000 = (a : Int) := ⟨min root.size 10000, by omega⟩
      obtain ⟨d, hd⟩ : ∃ a : Nat, min (name.size : Int) 10000 = (a : Int) := ⟨min name.size 10000, by omega⟩
      have ha1 : a ≤ 10000 := by omega
      have hb1 : b ≤ 10000 := by omega
      have hd1 : d ≤ 10000 := by omega
      have hone : fewOne ⟨⟨kind, epoch, time, count, target, till, root, name⟩, tag⟩ = a + b + d := by unfold fewOne; simp only; omega
      rw [hone, ← HM.out] at hs
      have HS := Lib.hid hs; clear hs hone
      obtain ⟨_, _, _, _, _, _, c6, c7, c8⟩ := sld_cells hrange
      clear hrange hxk
      have e1 : IntKind.i64.wrap ((m : Int) + (a : Int)) = ((m + a : Nat) : Int) := by rw [IntWalk.i64_in _ (by omega)]; omega
      have e2 : IntKind.i64.wrap (((m + a : Nat) : Int) + (b : Int)) = ((m + a + b : Nat) : Int) := by rw [IntWalk.i64_in _ (by omega)]; omega
      have e3 : IntKind.i64.wrap (((m + a + b : Nat) : Int) + (d : Int)) = ((m + a + b + d : Nat) : Int) := by rw [IntWalk.i64_in _ (by omega)]; omega
      go_wp2_with fail
      go_quiet (fail)
      go_wp2_with fail
      clear e1 e2 e3 ha hb hd
      go_roundw
      case rel => exact ⟨k + 1, m + a + b + d, by omega, by go_num, rfl, by rw [HS.out]; omega, by omega, Below.drewN hbel _⟩
      case measure => simp [intOf]; omega
    · obtain rfl : k = N := by omega
      have hfN : m = fewN l := by
        rw [HM.out]; unfold fewN
        have h1 := Hn.out
        have h2 := HN.out
        by_cases h : n ≤ 100
        · rw [List.take_of_length_le (by omega), List.take_of_length_le (by omega)]
        · rw [show k = 100 by omega]
      have HFN := Lib.hid hfN; clear hfN
      have hres : fewS l = (decide (n ≤ 60) && decide (m ≤ 9000)) := by unfold fewS; rw [← HFN.out, ← Hn.out]
      have HRES := Lib.hid hres; clear hres
      by_cases h : n ≤ 100
      · have h1 : (n : Int) ≤ k := by have := HN.out; omega
        have h2 : ¬ (k : Int) < n := by omega
        go_wp2_with fail
        all_goals go_ret
        all_goals refine ⟨ret_b ?_, hbel⟩
        all_goals rw [HRES.out, Bool.eq_iff_iff]
        all_goals simp
        all_goals omega
      · have h1 : (k : Int) < n := by have := HN.out; omega
        have h2 : (100 : Int) ≤ k := by have := HN.out; omega
        go_wp2_with fail
        all_goals go_ret
        all_goals refine ⟨ret_b ?_, hbel⟩
        all_goals rw [HRES.out, Bool.eq_iff_iff]
        all_goals simp
        all_goals omega
end Go.Proofs.Ytacoibiafpdoaaa
