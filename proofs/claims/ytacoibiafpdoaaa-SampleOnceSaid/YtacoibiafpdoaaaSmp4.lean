/- The example of chapter 38; rows of places; whether two are the same. -/
import Derived.Test.YtacoibiafpdoaaaSmp3
import Derived.Deep.QuietTactic
import Derived.BigQuiet
namespace Go.Proofs.Ytacoibiafpdoaaa
open Go Go.RowKit
set_option linter.unusedVariables false

theorem flatA_at (ys : List AskD) : ∀ (j : Nat) (y : AskD), ys[j]? = some y → ∀ (i : Nat) (u : Value), y.cells[i]? = some u → (flatA ys)[j * 2 + i]? = some u := by
  induction ys with
  | nil => intro j y h; simp at h
  | cons a r ih =>
    intro j y h i u hu
    have ha : a.cells.length = 2 := rfl
    show (a.cells ++ flatA r)[_]? = _
    cases j with
    | zero =>
      simp at h
      subst h
      have := (List.getElem?_eq_some_iff.1 hu).1
      rw [List.getElem?_append_left (by omega), Nat.zero_mul, Nat.zero_add]
      exact hu
    | succ j =>
      rw [List.getElem?_append_right (by omega), ha, show (j + 1) * 2 + i - 2 = j * 2 + i by omega]
      exact ih j y (by simpa using h) i u hu
/-- A row of places. -/
def AskRow (w : World) (v : Value) (xs : List AskD) : Prop :=
  (xs = [] ∧ ∃ (p : Option Addr) (c : Nat), v = .slice p 0 c) ∨
  ∃ g o c, v = .slice (some ⟨g, o, none⟩) xs.length c ∧ xs.length ≤ c ∧ g < w.heap.size ∧ ∀ (j : Nat) (x : AskD), xs[j]? = some x → w.rangeAt g (o + j * 2) x.cells
theorem AskRow.below {w w' : World} {v : Value} {xs : List AskD} (h : AskRow w v xs) {B : Nat} (hb : Below B w w') (hB : w.heap.size ≤ B) : AskRow w' v xs := by
  refine h.imp id ?_
  rintro ⟨g, o, c, h1, hc, h2, h3⟩
  exact ⟨g, o, c, h1, hc, by have := hb.size; omega, fun j x hx i u hu => by rw [hb.cell (by show g < B; omega)]; exact h3 j x hx i u hu⟩
theorem AskRow.shape {w : World} {v : Value} {xs : List AskD} (h : AskRow w v xs) : ∃ (p : Option Addr) (c : Nat), v = .slice p xs.length c := by
  rcases h with ⟨rfl, p, c, rfl⟩ | ⟨g, o, c, rfl, _⟩
  · exact ⟨p, c, rfl⟩
  · exact ⟨_, c, rfl⟩
theorem AskRow.own {w : World} {base n : Nat} {v : Value} {xs : List AskD} (h : w.ownsRow base 85 2 v n (flatA xs)) (hn : n = xs.length) : AskRow w v xs := by
  subst hn
  by_cases h0 : xs = []
  · subst h0
    exact .inl ⟨rfl, own_nil h⟩
  · obtain ⟨g, cap, z, rfl, hc, hb, hk⟩ := own_split h (List.length_pos_iff.2 h0)
    refine .inr ⟨g, 0, cap, rfl, hc, hk.lt, fun j x hx i u hu => ?_⟩
    refine hk.cell ?_
    have h1 := flatA_at xs j x hx i u hu
    rw [Nat.zero_add, List.getElem?_append_left (List.getElem?_eq_some_iff.1 h1).1]
    exact h1
theorem AskRow.at_ {w : World} {g o n c : Nat} {xs : List AskD} (h : AskRow w (.slice (some ⟨g, o, none⟩) n c) xs) {j : Nat} {x : AskD} (hx : xs[j]? = some x) :
    w.cell? ⟨g, o + j * 2, none⟩ = some (.int .i64 x.epoch) ∧ w.cell? ⟨g, o + j * 2 + 1, none⟩ = some (.int .i64 x.lba) := by
  rcases h with ⟨rfl, _⟩ | ⟨g', o', c', he, _, _, h3⟩
  · simp at hx
  · simp at he
    obtain ⟨⟨rfl, rfl⟩, _, _⟩ := he
    exact ⟨h3 j x hx 0 _ rfl, h3 j x hx 1 _ rfl⟩

set_option maxRecDepth 100000 in
set_option maxHeartbeats 1000000 in
theorem same38_walk (a b : Value) (xs : List AskD) (w : World) (ha : AskRow w a xs) (hb : AskRow w b xs) (hl : xs.length ≤ 1048576) :
    Calls Try.prog 77 #[a, b] w fun e w' => e = .returned (.bool true) ∧ Below w.heap.size w w' := by
  by_cases h0 : xs = []
  · obtain ⟨p, c, rfl⟩ := ha.shape
    obtain ⟨p', c', rfl⟩ := hb.shape
    subst h0
    clear ha hb
    go_enter Try.func77, Try.ntmps77
    go_wp2_with fail
    go_loopw [13] (fun i wr => i = .int .i64 0 ∧ w = wr) (fun i _ => 0)
    case atStart => exact ⟨rfl, rfl⟩
    case round =>
      obtain ⟨rfl, rfl⟩ := hrel
      go_wp2_with fail
      go_ret
      exact ⟨rfl, Below.refl _ _⟩
  · rcases ha with ⟨h, _⟩ | ⟨g, o, c, rfl, hc, hg, hat⟩
    · exact absurd h h0
    rcases hb with ⟨h, _⟩ | ⟨g', o', c', rfl, hc', hg', hat'⟩
    · exact absurd h h0
    obtain ⟨n, hn⟩ : ∃ n, n = xs.length := ⟨_, rfl⟩
    rw [← hn]
    have hl2 : n ≤ 1048576 := by omega
    have HN := Lib.hid hn; clear hn hl
    have HA := Lib.hid hat; clear hat
    have HA' := Lib.hid hat'; clear hat'
    go_enter Try.func77, Try.ntmps77
    go_wp2_with fail
    go_loopw [13] (fun i wr => ∃ k : Nat, k ≤ n ∧ i = .int .i64 k ∧ Below w.heap.size w wr) (fun i _ => n - (intOf i).toNat)
    case atStart => exact ⟨0, by omega, rfl, Below.refl _ _⟩
    case round =>
      obtain ⟨k, hk, rfl, hbel⟩ := hrel
      by_cases hlt : k < n
      · have hlt' : (k : Int) < n := by omega
        obtain ⟨x, hx⟩ : ∃ x, xs[k]? = some x := ⟨_, List.getElem?_eq_getElem (by rw [← HN.out]; exact hlt)⟩
        have c0 : wr.cell? ⟨g, o + k * 2, none⟩ = some (.int .i64 x.epoch) := by rw [hbel.cell (by exact hg)]; exact HA.out k x hx 0 _ rfl
        have c1 : wr.cell? ⟨g, o + k * 2 + 1, none⟩ = some (.int .i64 x.lba) := by rw [hbel.cell (by exact hg)]; exact HA.out k x hx 1 _ rfl
        have d0 : wr.cell? ⟨g', o' + k * 2, none⟩ = some (.int .i64 x.epoch) := by rw [hbel.cell (by exact hg')]; exact HA'.out k x hx 0 _ rfl
        have d1 : wr.cell? ⟨g', o' + k * 2 + 1, none⟩ = some (.int .i64 x.lba) := by rw [hbel.cell (by exact hg')]; exact HA'.out k x hx 1 _ rfl
        clear hx
        go_wp2_with fail
        go_quiet (fail)
        go_wp2_with fail
        go_roundw
        case rel => exact ⟨k + 1, by omega, by go_num, Below.drewN hbel _⟩
        case measure => simp [intOf]; omega
      · obtain rfl : k = n := by omega
        go_wp2_with fail
        go_ret
        exact ⟨rfl, hbel⟩

def nonceB : ByteArray := ⟨#[48, 49, 50, 51, 52, 53, 54, 55, 56, 57, 97, 98, 99, 100, 101, 102, 48, 49, 50, 51, 52, 53, 54, 55, 56, 57, 97, 98, 99, 100, 101, 102]⟩
theorem pick_one (s : List UInt8) : pickS s 3 1 1 1 = [⟨3, 0⟩] := by
  have h : pickX s 1 0 = 0 := by have := pickX_lt (s := s) (t := 1) (i := 0) (by omega); omega
  show [_] = _
  simp [h]
set_option maxRecDepth 100000 in
set_option maxHeartbeats 1000000 in
theorem alive38 (w : World) :
    Calls Try.prog 69 #[] w fun e w' => e = .returned (.bool true) ∧ Below w.heap.size w w' := by
  go_enter Try.func69, Try.ntmps69
  go_wp2_with fail
  refine (pick38_yes nonceB 3 4 1 5 1 1 _ rfl (by decide) (by omega) (by decide) (by decide)).mono ?_
  rintro e w1 ⟨v, rfl, hown, hb1⟩
  rw [pick_one] at hown
  obtain ⟨g, cap, z, rfl, hc, hb, hk⟩ := own_split hown (by omega)
  have c0 : w1.cell? ⟨g, 0, none⟩ = some (.int .i64 3) := hk.cell rfl
  have c1 : w1.cell? ⟨g, 1, none⟩ = some (.int .i64 0) := hk.cell rfl
  clear hown hk
  go_wp2_with fail
  go_ret
  exact ⟨rfl, hb1⟩
end Go.Proofs.Ytacoibiafpdoaaa
