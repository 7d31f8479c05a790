/- Walks of sample.may, Total, Number, Place and the documents' Right, Total, Number (chapter 38). -/
import Derived.Test.YtacoibiafpdoaaaG5
import Derived.Test.YtacoibiafpdoaaaG3
import Derived.Laws.ResultCell
namespace Go.Proofs.Ytacoibiafpdoaaa
open Go Go.RowKit
set_option linter.unusedVariables false

/-- May places be? -/
def rightB (f o l : Int) : Bool := decide (0 ≤ f) && decide (f ≤ o) && decide (o ≤ 4294967295) && decide (1 ≤ l) && decide (l ≤ 4096) && decide ((o - f) * l ≤ 4194304)
/-- How many places there are. -/
def totalS (f o l : Int) : Int := if rightB f o l then (o - f) * l else 0
theorem rightB_iff {f o l : Int} : rightB f o l = true ↔ 0 ≤ f ∧ f ≤ o ∧ o ≤ 4294967295 ∧ 1 ≤ l ∧ l ≤ 4096 ∧ (o - f) * l ≤ 4194304 := by
  simp [rightB, and_assoc]
theorem mul_parts {f o l : Int} (h2 : f ≤ o) (h4 : 1 ≤ l) : 0 ≤ (o - f) * l := Int.mul_nonneg (by omega) (by omega)
theorem totalS_bd (f o l : Int) : 0 ≤ totalS f o l ∧ totalS f o l ≤ 4194304 := by
  unfold totalS
  split
  · next h =>
    obtain ⟨h1, h2, h3, h4, h5, h6⟩ := rightB_iff.1 h
    exact ⟨mul_parts h2 h4, h6⟩
  · exact ⟨by omega, by omega⟩
theorem right_div {f o l : Int} (h : 0 ≤ f ∧ f ≤ o ∧ o ≤ 4294967295 ∧ 1 ≤ l ∧ l ≤ 4096) : rightB f o l = decide (o - f ≤ 4194304 / l) := by
  obtain ⟨h1, h2, h3, h4, h5⟩ := h
  have hd : o - f ≤ 4194304 / l ↔ (o - f) * l ≤ 4194304 := Int.le_ediv_iff_mul_le (by omega)
  rw [Bool.eq_iff_iff, rightB_iff, decide_eq_true_eq, hd]
  exact ⟨fun h => h.2.2.2.2.2, fun h => ⟨h1, h2, h3, h4, h5, h⟩⟩
theorem right_not {f o l : Int} (h : ¬ (0 ≤ f ∧ f ≤ o ∧ o ≤ 4294967295 ∧ 1 ≤ l ∧ l ≤ 4096)) : rightB f o l = false := by
  rw [Bool.eq_false_iff]
  intro h'
  obtain ⟨h1, h2, h3, h4, h5, h6⟩ := rightB_iff.1 h'
  exact h ⟨h1, h2, h3, h4, h5⟩

set_option maxHeartbeats 1000000 in
theorem may38_walk (f o l : Int) (w : World) :
    Calls Try.prog 119 #[.int .i64 f, .int .i64 o, .int .i64 l] w fun e w' => e = .returned (.bool (rightB f o l)) ∧ w = w' := by
  by_cases h : 0 ≤ f ∧ f ≤ o ∧ o ≤ 4294967295 ∧ 1 ≤ l ∧ l ≤ 4096
  · rw [right_div h]
    obtain ⟨h1, h2, h3, h4, h5⟩ := h
    go_enter Try.func119, Try.ntmps119
    go_wp2_with fail
    go_ret
    exact ⟨rfl, rfl⟩
  · rw [right_not h]
    by_cases h1 : 0 ≤ f
    · by_cases h2 : f ≤ o
      · by_cases h3 : o ≤ 4294967295
        · by_cases h4 : 1 ≤ l
          · have h5 : 4096 < l := by omega
            clear h
            go_enter Try.func119, Try.ntmps119
            go_wp2_with fail
            go_ret
            exact ⟨rfl, rfl⟩
          · have h5 : l < 1 := by omega
            clear h h4
            go_enter Try.func119, Try.ntmps119
            go_wp2_with fail
            go_ret
            exact ⟨rfl, rfl⟩
        · have h5 : 4294967295 < o := by omega
          clear h h3
          go_enter Try.func119, Try.ntmps119
          go_wp2_with fail
          go_ret
          exact ⟨rfl, rfl⟩
      · have h5 : o < f := by omega
        clear h h2
        go_enter Try.func119, Try.ntmps119
        go_wp2_with fail
        go_ret
        exact ⟨rfl, rfl⟩
    · have h5 : f < 0 := by omega
      clear h h1
      go_enter Try.func119, Try.ntmps119
      go_wp2_with fail
      go_ret
      exact ⟨rfl, rfl⟩

theorem mul_bd {f o l : Int} (h : 0 ≤ f ∧ f ≤ o ∧ o ≤ 4294967295 ∧ 1 ≤ l ∧ l ≤ 4096) : 0 ≤ (o - f) * l ∧ (o - f) * l ≤ 17592186040320 := by
  obtain ⟨h1, h2, h3, h4, h5⟩ := h
  refine ⟨mul_parts h2 h4, ?_⟩
  have : (o - f) * l ≤ 4294967295 * 4096 := Int.mul_le_mul (by omega) h5 (by omega) (by omega)
  omega

set_option maxHeartbeats 1000000 in
theorem right38_walk (f o l : Int) (w : World) :
    Calls Try.prog 76 #[.int .i64 f, .int .i64 o, .int .i64 l] w fun e w' => e = .returned (.bool (rightB f o l)) ∧ w = w' := by
  by_cases h : 0 ≤ f ∧ f ≤ o ∧ o ≤ 4294967295 ∧ 1 ≤ l ∧ l ≤ 4096
  · obtain ⟨m1, m2⟩ := mul_bd h
    have hr : rightB f o l = decide ((o - f) * l ≤ 4194304) := by
      rw [right_div h]
      obtain ⟨h1, h2, h3, h4, h5⟩ := h
      have hd : o - f ≤ 4194304 / l ↔ (o - f) * l ≤ 4194304 := Int.le_ediv_iff_mul_le (by omega)
      simp only [hd]
    rw [hr]
    obtain ⟨h1, h2, h3, h4, h5⟩ := h
    clear hr
    go_enter Try.func76, Try.ntmps76
    go_wp2_with fail
    go_ret
    exact ⟨rfl, rfl⟩
  · rw [right_not h]
    by_cases h1 : 0 ≤ f
    · by_cases h2 : f ≤ o
      · by_cases h3 : o ≤ 4294967295
        · by_cases h4 : 1 ≤ l
          · have h5 : ¬ l ≤ 4096 := by omega
            clear h
            go_enter Try.func76, Try.ntmps76
            go_wp2_with fail
            go_ret
            exact ⟨rfl, rfl⟩
          · clear h
            go_enter Try.func76, Try.ntmps76
            go_wp2_with fail
            go_ret
            exact ⟨rfl, rfl⟩
        · clear h
          go_enter Try.func76, Try.ntmps76
          go_wp2_with fail
          go_ret
          exact ⟨rfl, rfl⟩
      · clear h
        go_enter Try.func76, Try.ntmps76
        go_wp2_with fail
        go_ret
        exact ⟨rfl, rfl⟩
    · clear h
      go_enter Try.func76, Try.ntmps76
      go_wp2_with fail
      go_ret
      exact ⟨rfl, rfl⟩

theorem ret_i {a b : Int} (h : a = b) : Ending.returned (.int .i64 a) = .returned (.int .i64 b) := by rw [h]
set_option maxHeartbeats 1000000 in
theorem total38_walk (f o l : Int) (w : World) :
    Calls Try.prog 74 #[.int .i64 f, .int .i64 o, .int .i64 l] w fun e w' => e = .returned (.int .i64 (totalS f o l)) ∧ w = w' := by
  cases hr : rightB f o l with
  | true =>
    have ht : totalS f o l = (o - f) * l := by unfold totalS; rw [if_pos hr]
    obtain ⟨h1, h2, h3, h4, h5, h6⟩ := rightB_iff.1 hr
    have h7 := mul_parts h2 h4
    rw [ht]
    have HR := Lib.hid hr; clear hr ht
    go_enter Try.func74, Try.ntmps74
    go_wp2_with fail
    refine (may38_walk f o l _).mono ?_
    rintro e w1 ⟨rfl, rfl⟩
    rw [HR.out]
    go_wp2_with fail
    go_ret
    exact ⟨rfl, rfl⟩
  | false =>
    have ht : totalS f o l = 0 := by unfold totalS; rw [hr]; rfl
    rw [ht]
    have HR := Lib.hid hr; clear hr ht
    go_enter Try.func74, Try.ntmps74
    go_wp2_with fail
    refine (may38_walk f o l _).mono ?_
    rintro e w1 ⟨rfl, rfl⟩
    rw [HR.out]
    go_wp2_with fail
    go_ret
    exact ⟨rfl, rfl⟩

set_option maxHeartbeats 1000000 in
theorem rtotal38_walk (f o l : Int) (w : World) :
    Calls Try.prog 72 #[.int .i64 f, .int .i64 o, .int .i64 l] w fun e w' => e = .returned (.int .i64 (totalS f o l)) ∧ w = w' := by
  cases hr : rightB f o l with
  | true =>
    have ht : totalS f o l = (o - f) * l := by unfold totalS; rw [if_pos hr]
    obtain ⟨h1, h2, h3, h4, h5, h6⟩ := rightB_iff.1 hr
    have h7 := mul_parts h2 h4
    rw [ht]
    have HR := Lib.hid hr; clear hr ht
    go_enter Try.func72, Try.ntmps72
    go_wp2_with fail
    refine (right38_walk f o l _).mono ?_
    rintro e w1 ⟨rfl, rfl⟩
    rw [HR.out]
    go_wp2_with fail
    go_ret
    exact ⟨rfl, rfl⟩
  | false =>
    have ht : totalS f o l = 0 := by unfold totalS; rw [hr]; rfl
    rw [ht]
    have HR := Lib.hid hr; clear hr ht
    go_enter Try.func72, Try.ntmps72
    go_wp2_with fail
    refine (right38_walk f o l _).mono ?_
    rintro e w1 ⟨rfl, rfl⟩
    rw [HR.out]
    go_wp2_with fail
    go_ret
    exact ⟨rfl, rfl⟩

/-- A place of an epoch. -/
structure AskD where
  epoch : Int
  lba : Int
deriving DecidableEq
def AskD.cells (x : AskD) : List Value := [.int .i64 x.epoch, .int .i64 x.lba]
def AskD.v (x : AskD) : Value := .agg #[.int .i64 x.epoch, .int .i64 x.lba]
theorem zeroAsk (w : World) : Sem.run Try.prog (zeroValue 85) w = .ok (.agg (AskD.cells ⟨0, 0⟩).toArray) w := by kernel_rfl
theorem rsizeAsk {x : AskD} : (Try.prog.info? 85).map (·.size) = some x.cells.length := by kernel_rfl
/-- Which place a number is. -/
def placeS (f o l i : Int) : AskD × Int := if 0 ≤ i ∧ i < totalS f o l then (⟨f + i / l, i % l⟩, 0) else (⟨0, 0⟩, 2)
theorem results_cell_ask {fn : Func} {p u : Tmp} (h : fn.results = #[.cell p 85, .tmp u]) (tmps : Array Value) (w : World) {b : Nat} {x : AskD}
    (hb : ∀ (i : Nat) (u : Value), x.cells[i]? = some u → w.cell? ⟨b, i, none⟩ = some u) (hp : tmps.getD p undef = .pointer (some ⟨b, 0, none⟩)) :
    (results fn tmps).run Try.prog w = .ok (.tuple #[x.v, tmps.getD u undef]) w := by
  rw [results_cell_tmp h, hp]
  have e := run_loadVar_mid (P := Try.prog) w b 0 85 x.cells _ (fun i u hu => by rw [Nat.zero_add]; exact hb i u hu) Try.underlying85 rfl rsizeAsk
  simp only [asAddr, Sem.run_pure, Result.andThen_ok, e]
  rfl
end Go.Proofs.Ytacoibiafpdoaaa
