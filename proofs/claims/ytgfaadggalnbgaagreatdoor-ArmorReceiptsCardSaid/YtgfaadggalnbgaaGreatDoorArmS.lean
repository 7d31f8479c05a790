/- Named bytes as letters, in plain words (chapter 39). No program in sight. -/
import Derived.Test.YtgfaadggalnbgaaGreatDoorBase32
import Derived.Test.YtgfaadggalnbgaaGreatDoorG1
import Derived.Lib.Join
import Derived.Lib.Bytealg
namespace Go.Proofs.YtgfaadggalnbgaaGreatDoor
set_option linter.unusedSimpArgs false
set_option linter.unusedVariables false
open Go
set_option linter.unusedVariables false

/-- What stands ahead of a byte, and behind it. -/
def splitC (c : UInt8) : List UInt8 → Option (List UInt8 × List UInt8)
  | [] => none
  | b :: l => if b = c then some ([], l) else (splitC c l).map fun p => (b :: p.1, p.2)
theorem splitC_some {c : UInt8} : ∀ {l x y : List UInt8}, splitC c l = some (x, y) → l = x ++ c :: y ∧ c ∉ x ∧ Lib.indexByte l c = x.length := by
  intro l
  induction l with
  | nil => intro x y h; cases h
  | cons b l ih =>
    intro x y h
    unfold splitC at h
    split at h
    · next hb =>
      injection h with h
      injection h with h1 h2
      subst h1 h2 hb
      exact ⟨rfl, by simp, by simp [Lib.indexByte]⟩
    · next hb =>
      cases hs : splitC c l with
      | none => rw [hs] at h; cases h
      | some p =>
        obtain ⟨x', y'⟩ := p
        rw [hs] at h
        injection h with h
        injection h with h1 h2
        subst h1 h2
        obtain ⟨h1, h2, h3⟩ := ih hs
        refine ⟨by rw [h1]; rfl, ?_, ?_⟩
        · simp only [List.mem_cons, not_or]
          exact ⟨fun e => hb e.symm, h2⟩
        · have : ¬ ((x'.length : Int) = -1) := by omega
          simp [Lib.indexByte, hb, h3, this]
theorem splitC_none {c : UInt8} : ∀ {l : List UInt8}, splitC c l = none → c ∉ l ∧ Lib.indexByte l c = -1 := by
  intro l
  induction l with
  | nil => intro _; exact ⟨by simp, rfl⟩
  | cons b l ih =>
    intro h
    unfold splitC at h
    split at h
    · cases h
    · next hb =>
      cases hs : splitC c l with
      | some p => rw [hs] at h; cases h
      | none =>
        obtain ⟨h1, h2⟩ := ih hs
        refine ⟨?_, ?_⟩
        · simp only [List.mem_cons, not_or]
          exact ⟨fun e => hb e.symm, h1⟩
        · simp [Lib.indexByte, hb, h2]
theorem splitC_of {c : UInt8} {x y : List UInt8} (h : c ∉ x) : splitC c (x ++ c :: y) = some (x, y) := by
  induction x with
  | nil => simp [splitC]
  | cons b x ih =>
    simp only [List.mem_cons, not_or] at h
    have hb : ¬ b = c := fun e => h.1 e.symm
    simp [splitC, hb, ih h.2]
/-- Without a byte. -/
def stripC (c : UInt8) (l : List UInt8) : List UInt8 := l.filter (fun b => decide (b ≠ c))
theorem stripC_append (c : UInt8) (a b : List UInt8) : stripC c (a ++ b) = stripC c a ++ stripC c b := by simp [stripC]
theorem stripC_id {c : UInt8} {l : List UInt8} (h : c ∉ l) : stripC c l = l := by
  unfold stripC
  rw [List.filter_eq_self]
  intro b hb
  have : b ≠ c := fun e => h (e ▸ hb)
  simpa using this
theorem stripC_snoc (c b : UInt8) (l : List UInt8) : stripC c (l ++ [b]) = if b = c then stripC c l else stripC c l ++ [b] := by
  rw [stripC_append]
  by_cases h : b = c <;> simp [stripC, h]

/-- Letters in lines of sixty. -/
def wrapN : Nat → List UInt8 → List UInt8
  | 0, l => l
  | n + 1, l => if l.length ≤ 60 then l else l.take 60 ++ 10 :: wrapN n (l.drop 60)
def wrapL (l : List UInt8) : List UInt8 := wrapN l.length l
theorem wrapN_more : ∀ (n : Nat) (l : List UInt8), l.length ≤ n → wrapN (n + 1) l = wrapN n l := by
  intro n
  induction n with
  | zero => intro l h; unfold wrapN; rw [if_pos (by omega)]
  | succ n ih =>
    intro l h
    conv => lhs; unfold wrapN
    conv => rhs; unfold wrapN
    split
    · rfl
    · rw [ih _ (by rw [List.length_drop]; omega)]
theorem wrapN_any {n m : Nat} {l : List UInt8} (hn : l.length ≤ n) (hm : n ≤ m) : wrapN m l = wrapN n l := by
  induction m with
  | zero =>
    obtain rfl : n = 0 := by omega
    rfl
  | succ m ih =>
    by_cases h : n = m + 1
    · subst h; rfl
    · rw [wrapN_more m l (by omega), ih (by omega)]
theorem wrapL_short {l : List UInt8} (h : l.length ≤ 60) : wrapL l = l := by
  unfold wrapL
  cases hn : l.length with
  | zero => rfl
  | succ n => unfold wrapN; rw [if_pos h]
theorem wrapL_long {l : List UInt8} (h : 60 < l.length) : wrapL l = l.take 60 ++ 10 :: wrapL (l.drop 60) := by
  unfold wrapL
  obtain ⟨n, hn⟩ : ∃ n, l.length = n + 1 := ⟨l.length - 1, by omega⟩
  rw [hn]
  conv => lhs; unfold wrapN
  rw [if_neg (by omega), wrapN_any (n := (l.drop 60).length) (Nat.le_refl _) (by rw [List.length_drop]; omega)]
/-- The lines ahead of a place. -/
def lines (l : List UInt8) (j : Nat) : List (List UInt8) := (List.range j).map fun i => (l.drop (60 * i)).take 60
theorem lines_succ (l : List UInt8) (j : Nat) : lines l (j + 1) = lines l j ++ [(l.drop (60 * j)).take 60] := by simp [lines, List.range_succ]
theorem lines_cons (l : List UInt8) (j : Nat) : lines l (j + 1) = l.take 60 :: lines (l.drop 60) j := by
  unfold lines
  rw [List.range_succ_eq_map, List.map_cons, List.map_map]
  congr 1
  refine List.map_congr_left fun i _ => ?_
  show (l.drop (60 * (i + 1))).take 60 = ((l.drop 60).drop (60 * i)).take 60
  rw [List.drop_drop]
  congr 2
  omega
/-- All lines, and what is left: joined by the byte 10 they are the letters in lines. -/
theorem join_lines : ∀ (j : Nat) (l : List UInt8), (∀ i, i < j → 60 < l.length - 60 * i) → l.length - 60 * j ≤ 60 → Lib.join (lines l j ++ [l.drop (60 * j)]) [10] = wrapL l := by
  intro j
  induction j with
  | zero =>
    intro l _ h
    rw [wrapL_short (by omega)]
    simp [lines, Lib.join_one]
  | succ j ih =>
    intro l hl h
    have h0 := hl 0 (by omega)
    rw [wrapL_long (by omega), lines_cons, List.cons_append, Lib.join_cons]
    have := ih (l.drop 60) (fun i hi => by have := hl (i + 1) (by omega); rw [List.length_drop]; omega) (by rw [List.length_drop]; omega)
    rw [← this]
    have e : (l.drop 60).drop (60 * j) = l.drop (60 * (j + 1)) := by rw [List.drop_drop]; congr 1; omega
    rw [e]
    cases hq : lines (l.drop 60) j ++ [l.drop (60 * (j + 1))] with
    | nil => simp at hq
    | cons a r =>
      rw [Lib.join_cons]
      simp [Lib.joinTail]
/-- The letters up to a place, with a byte 10 ahead of each sixtieth. -/
def wrapTo (l : List UInt8) : Nat → List UInt8
  | 0 => []
  | k + 1 => wrapTo l k ++ (if 0 < k ∧ k % 60 = 0 then [10] else []) ++ (match l[k]? with | some b => [b] | none => [])
theorem wrapTo_short {l : List UInt8} : ∀ (k : Nat), k ≤ 60 → k ≤ l.length → wrapTo l k = l.take k := by
  intro k
  induction k with
  | zero => intro _ _; simp [wrapTo]
  | succ k ih =>
    intro h1 h2
    unfold wrapTo
    rw [ih (by omega) (by omega), if_neg (by omega), List.take_succ_eq_append_getElem (by omega), List.getElem?_eq_getElem (by omega)]
    simp
theorem wrapTo_long {l : List UInt8} (h : 60 ≤ l.length) : ∀ (m : Nat), 60 + m ≤ l.length → wrapTo l (60 + m) = l.take 60 ++ (if m = 0 then [] else 10 :: wrapTo (l.drop 60) m) := by
  intro m
  induction m with
  | zero => intro _; rw [wrapTo_short 60 (Nat.le_refl _) h]; simp
  | succ m ih =>
    intro hm
    show wrapTo l (60 + m + 1) = _
    rw [if_neg (by omega)]
    unfold wrapTo
    rw [ih (by omega)]
    have e : l[60 + m]? = (l.drop 60)[m]? := by rw [List.getElem?_drop]
    rw [e]
    by_cases h0 : m = 0
    · subst h0
      simp [wrapTo]
    · rw [if_neg h0]
      have e2 : (0 < 60 + m ∧ (60 + m) % 60 = 0) = (0 < m ∧ m % 60 = 0) := by simp only [eq_iff_iff]; omega
      simp only [e2]
      simp
theorem wrapTo_all : ∀ (n : Nat) (l : List UInt8), l.length ≤ n → wrapTo l l.length = wrapL l := by
  intro n
  induction n with
  | zero =>
    intro l h
    have : l = [] := List.eq_nil_of_length_eq_zero (by omega)
    subst this
    rfl
  | succ n ih =>
    intro l h
    by_cases h60 : l.length ≤ 60
    · rw [wrapTo_short _ h60 (Nat.le_refl _), wrapL_short h60, List.take_length]
    · rw [wrapL_long (by omega)]
      obtain ⟨m, hm⟩ : ∃ m, l.length = 60 + m := ⟨l.length - 60, by omega⟩
      have hd : (l.drop 60).length = m := by rw [List.length_drop]; omega
      rw [hm, wrapTo_long (by omega) m (by omega), if_neg (by omega)]
      congr 2
      have := ih (l.drop 60) (by omega)
      rw [hd] at this
      exact this
theorem stripC_wrapN {n : Nat} : ∀ {l : List UInt8}, (10 : UInt8) ∉ l → stripC 10 (wrapN n l) = l := by
  induction n with
  | zero => intro l h; exact stripC_id h
  | succ n ih =>
    intro l h
    unfold wrapN
    split
    · exact stripC_id h
    · have h1 : (10 : UInt8) ∉ l.take 60 := fun hh => h (List.mem_of_mem_take hh)
      have h2 : (10 : UInt8) ∉ l.drop 60 := fun hh => h (List.mem_of_mem_drop hh)
      have e : l.take 60 ++ 10 :: wrapN n (l.drop 60) = (l.take 60 ++ [10]) ++ wrapN n (l.drop 60) := by simp
      rw [e, stripC_append, ih h2, stripC_snoc, if_pos rfl, stripC_id h1, List.take_append_drop]

/-- The letters of named bytes. -/
def armT (name s : List UInt8) : List UInt8 := letL (s ++ (sha (textL name ++ s)).take 5)
/-- May they be? -/
def armOk (name s : List UInt8) : Bool := nameOk name && decide (s.length ≤ 4000)
/-- Named bytes as letters. -/
def armPut (name s : List UInt8) : List UInt8 := name ++ 58 :: wrapL (armT name s)
/-- The name and the bytes of letters. -/
def armTake (t : List UInt8) : Option (List UInt8 × List UInt8) :=
  match splitC 58 t with
  | none => none
  | some (name, rest) =>
    match decL (stripC 10 rest) with
    | none => none
    | some s => if 5 ≤ s.length ∧ armOk name (s.take (s.length - 5)) = true ∧ armPut name (s.take (s.length - 5)) = t then some (name, s.take (s.length - 5)) else none
theorem armTake_back {t name s : List UInt8} (h : armTake t = some (name, s)) : armOk name s = true ∧ armPut name s = t := by
  unfold armTake at h
  cases hs : splitC 58 t with
  | none => rw [hs] at h; cases h
  | some p =>
    obtain ⟨n, rest⟩ := p
    rw [hs] at h
    simp only at h
    cases hd : decL (stripC 10 rest) with
    | none => rw [hd] at h; cases h
    | some b =>
      rw [hd] at h
      simp only at h
      split at h
      · next hc =>
        injection h with h
        injection h with h1 h2
        subst h1 h2
        exact hc.2
      · cases h
end Go.Proofs.YtgfaadggalnbgaaGreatDoor
