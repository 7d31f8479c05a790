/- Letters lead back to their bytes; named letters to their name and bytes. No program in sight. -/
import Derived.Test.YtgfaadggalnbgaaGreatDoorArmF
namespace Go.Proofs.YtgfaadggalnbgaaGreatDoor
set_option linter.unusedSimpArgs false
set_option linter.unusedVariables false
open Go
set_option linter.unusedVariables false

theorem t32_digs (S b : Nat) (hS : S < 2 ^ b) : ∀ m, t32 ((List.range m).map fun j => dig S b 5 j) = S * 2 ^ (5 * m) / 2 ^ b := by
  intro m
  induction m with
  | zero => simp [t32, Nat.div_eq_of_lt hS]
  | succ m ih =>
    rw [List.range_succ, List.map_append, List.map_cons, List.map_nil, t32_snoc, ih]
    have h : S * 2 ^ (5 * (m + 1)) / 2 ^ b / 32 = S * 2 ^ (5 * m) / 2 ^ b := by
      rw [show 5 * (m + 1) = 5 * m + 5 by omega, Nat.pow_add, ← Nat.mul_assoc, Nat.div_div_eq_div_mul, Nat.mul_comm (2 ^ b) 32, Nat.mul_comm (S * 2 ^ (5 * m)) (2 ^ 5), show (2 : Nat) ^ 5 = 32 by rfl, Nat.mul_div_mul_left _ _ (by omega)]
    have e : dig S b 5 m = S * 2 ^ (5 * (m + 1)) / 2 ^ b % 32 := rfl
    rw [e, ← h]
    omega
theorem bytesTo_nOf : ∀ (n : Nat) (l : List UInt8), l.length = n → bytesTo (nOf l) (8 * n) n = l := by
  intro n
  induction n with
  | zero =>
    intro l h
    rw [List.eq_nil_of_length_eq_zero h]
    rfl
  | succ n ih =>
    intro l h
    obtain ⟨a, b, rfl⟩ : ∃ a b, l = a ++ [b] := ⟨l.dropLast, l.getLast (by intro e; rw [e] at h; simp at h), (List.dropLast_concat_getLast _).symm⟩
    have ha : a.length = n := by simpa using h
    have hb := b.toNat_lt
    rw [nOf_snoc, bytesTo_succ, dig_in (by omega), Nat.mul_comm 256, show (256 : Nat) = 2 ^ 8 by rfl, show 8 * (n + 1) = 8 * n + 8 by omega, bytesTo_more (Nat.le_refl _) (by omega), ih a ha]
    congr 1
    rw [show 8 * n + 8 - (8 * n + 8) = 0 by omega, Nat.pow_zero, Nat.div_one, Nat.mul_comm, Nat.mul_add_mod, Nat.mod_eq_of_lt hb]
    simp
theorem mapM_fiveB {ds : List Nat} (h : ∀ d ∈ ds, d < 32) : (ds.map letterB).mapM fiveB = some ds := by
  induction ds with
  | nil => rfl
  | cons d ds ih =>
    rw [List.map_cons, List.mapM_cons, letterB_five d (h d (by simp)), ih (fun x hx => h x (by simp [hx]))]
    rfl
/-- Letters lead back. -/
theorem decL_letL' (l : List UInt8) : decL (letL l) = some l := by
  obtain ⟨m, hm⟩ : ∃ m, m = (8 * l.length + 4) / 5 := ⟨_, rfl⟩
  have hv : (letL l).mapM fiveB = some ((List.range m).map fun j => dig (nOf l) (8 * l.length) 5 j) := by
    unfold letL lettersTo
    rw [← hm, show ((List.range m).map fun j => letterB (dig (nOf l) (8 * l.length) 5 j)) = ((List.range m).map fun j => dig (nOf l) (8 * l.length) 5 j).map letterB by rw [List.map_map]; rfl]
    refine mapM_fiveB fun d hd => ?_
    obtain ⟨j, _, rfl⟩ := List.mem_map.1 hd
    exact Nat.mod_lt _ (by decide)
  obtain ⟨c, hc⟩ : ∃ c, 5 * m = 8 * l.length + c := ⟨5 * m - 8 * l.length, by omega⟩
  have hr : rawL ((List.range m).map fun j => dig (nOf l) (8 * l.length) 5 j) = l := by
    unfold rawL
    rw [t32_digs _ _ (nOf_lt l), List.length_map, List.length_range, hc, show (8 * l.length + c) / 8 = l.length by omega, Nat.pow_add, ← Nat.mul_assoc, Nat.mul_assoc, Nat.mul_comm (2 ^ (8 * l.length)), ← Nat.mul_assoc, Nat.mul_div_cancel _ (Nat.two_pow_pos _)]
    have := bytesTo_more (S := nOf l) (b := 8 * l.length) (m := l.length) (c := c) (r := 0) (Nat.le_refl _) (Nat.two_pow_pos _)
    rw [Nat.add_zero] at this
    rw [this]
    exact bytesTo_nOf _ l rfl
  unfold decL
  rw [hv]
  simp only [hr, if_true]
theorem letL_no10 (l : List UInt8) : (10 : UInt8) ∉ letL l := by
  unfold letL lettersTo
  intro h
  obtain ⟨j, _, e⟩ := List.mem_map.1 h
  have : ∀ n, n < 32 → letterB n ≠ 10 := by decide
  exact this _ (Nat.mod_lt _ (by decide)) e
/-- What was put is taken. -/
theorem armTake_put {name s : List UInt8} (h : armOk name s = true) (hn : (58 : UInt8) ∉ name) : armTake (armPut name s) = some (name, s) := by
  unfold armTake armPut
  rw [splitC_of hn]
  have e : stripC 10 (wrapL (armT name s)) = armT name s := by unfold wrapL; exact stripC_wrapN (letL_no10 _)
  simp only [e]
  have hd : decL (armT name s) = some (s ++ (sha (textL name ++ s)).take 5) := decL_letL' _
  simp only [hd]
  have h5 : ((sha (textL name ++ s)).take 5).length = 5 := by rw [List.length_take, sha_length]; rfl
  have ht : (s ++ (sha (textL name ++ s)).take 5).take ((s ++ (sha (textL name ++ s)).take 5).length - 5) = s := by
    rw [List.length_append, h5, Nat.add_sub_cancel, List.take_left']
    rfl
  rw [ht, if_pos ⟨by rw [List.length_append, h5]; omega, h, rfl⟩]
/-- What the documents' loop lays, and what is taken. -/
theorem foldF_split {t n r : List UInt8} {q : Bool} (h : t.foldl stepF ([], [], false) = (n, r, q)) : (∃ y, splitC 58 t = some (n, y) ∧ r = stripC 10 y) ∨ (splitC 58 t = none ∧ r = []) := by
  rw [foldF_all] at h
  cases hs : splitC 58 t with
  | none =>
    rw [hs] at h
    simp only [Prod.mk.injEq] at h
    exact .inr ⟨rfl, h.2.1.symm⟩
  | some p =>
    obtain ⟨x, y⟩ := p
    rw [hs] at h
    simp only [Prod.mk.injEq, List.nil_append] at h
    exact .inl ⟨y, by rw [h.1], h.2.1.symm⟩
theorem decL_nil : decL [] = some [] := by decide
theorem armTake_bad {t n r : List UInt8} {q : Bool} (h : t.foldl stepF ([], [], false) = (n, r, q)) (hd : decL r = none) : armTake t = none := by
  unfold armTake
  rcases foldF_split h with ⟨y, hs, rfl⟩ | ⟨hs, rfl⟩
  · rw [hs]; simp only [hd]
  · rw [hs]
theorem armTake_short {t n r o : List UInt8} {q : Bool} (h : t.foldl stepF ([], [], false) = (n, r, q)) (hd : decL r = some o) (ho : o.length < 5) : armTake t = none := by
  unfold armTake
  rcases foldF_split h with ⟨y, hs, rfl⟩ | ⟨hs, rfl⟩
  · rw [hs]; simp only [hd]; rw [if_neg (by omega)]
  · rw [hs]
theorem armTake_no {t n r o : List UInt8} {q : Bool} (h : t.foldl stepF ([], [], false) = (n, r, q)) (hd : decL r = some o) (hc : ¬ (armOk n (o.take (o.length - 5)) = true ∧ armPut n (o.take (o.length - 5)) = t)) : armTake t = none := by
  unfold armTake
  rcases foldF_split h with ⟨y, hs, rfl⟩ | ⟨hs, rfl⟩
  · rw [hs]; simp only [hd]; rw [if_neg (fun hh => hc hh.2)]
  · rw [hs]
theorem armTake_yes {t n r o : List UInt8} {q : Bool} (h : t.foldl stepF ([], [], false) = (n, r, q)) (hd : decL r = some o) (h5 : 5 ≤ o.length) (h1 : armOk n (o.take (o.length - 5)) = true) (h2 : armPut n (o.take (o.length - 5)) = t) : armTake t = some (n, o.take (o.length - 5)) := by
  unfold armTake
  rcases foldF_split h with ⟨y, hs, rfl⟩ | ⟨hs, rfl⟩
  · rw [hs]; simp only [hd]; rw [if_pos ⟨h5, h1, h2⟩]
  · rw [decL_nil] at hd
    injection hd with hd
    rw [← hd] at h5
    simp at h5
end Go.Proofs.YtgfaadggalnbgaaGreatDoor
