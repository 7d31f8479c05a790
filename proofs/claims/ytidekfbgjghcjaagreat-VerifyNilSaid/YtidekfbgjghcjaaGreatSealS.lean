/- What sealing makes and checking tells, in plain words (chapter 20). -/
import Derived.Test.YtidekfbgjghcjaaGreatG8
namespace Go.Proofs.YtidekfbgjghcjaaGreat
set_option linter.unusedSimpArgs false
set_option linter.unusedVariables false
open Go
set_option linter.unusedVariables false

/-- The tag ahead of a record's place. -/
def wasS (root : List UInt8) (f : Nat) (l : List Rec) : Nat → List UInt8
  | 0 => List.replicate 32 0
  | k + 1 => match l[k]? with
    | some r => tagC (atL root f (r.epoch.toNat - f)) (wasS root f l k) k r
    | none => []
theorem wasS_at {root : List UInt8} {f k : Nat} {l : List Rec} {r : Rec} (h : l[k]? = some r) : wasS root f l (k + 1) = tagC (atL root f (r.epoch.toNat - f)) (wasS root f l k) k r := by
  show (match l[k]? with | some r => _ | none => _) = _
  rw [h]
theorem wasS_len {root : List UInt8} {f : Nat} {l : List Rec} : ∀ {k : Nat}, k ≤ l.length → (wasS root f l k).length = 32 := by
  intro k hk
  cases k with
  | zero => simp [wasS]
  | succ k =>
    obtain ⟨r, hr⟩ : ∃ r, l[k]? = some r := ⟨_, List.getElem?_eq_getElem (by omega)⟩
    rw [wasS_at hr, tagC_length]
/-- How many of the records are closures. -/
def closes (l : List Rec) : Nat := (l.filter (fun r => decide (r.kind = 1))).length
theorem closes_cons (r : Rec) (l : List Rec) : closes (r :: l) = (if r.kind = 1 then 1 else 0) + closes l := by
  unfold closes
  by_cases h : r.kind = 1
  · simp [List.filter_cons, h, Nat.add_comm]
  · simp [List.filter_cons, h]
theorem closes_take_succ {l : List Rec} {k : Nat} {r : Rec} (h : l[k]? = some r) : closes (l.take (k + 1)) = closes (l.take k) + if r.kind = 1 then 1 else 0 := by
  obtain ⟨h1, rfl⟩ := List.getElem?_eq_some_iff.1 h
  rw [List.take_succ_eq_append_getElem h1]
  unfold closes
  rw [List.filter_append, List.length_append]
  congr 1
  by_cases hk : l[k].kind = 1 <;> simp [List.filter_cons, hk]
theorem closes_le (l : List Rec) : closes l ≤ l.length := List.length_filter_le _ _
/-- Records that follow on each other. -/
structure FollowsOk (first : Int) (l : List Rec) : Prop where
  each : ∀ (k : Nat) (r : Rec), l[k]? = some r → recOk r = true ∧ r.epoch = first + (closes (l.take k) : Int)
theorem followGo_cons (ep now : Int) (i : Nat) (r : Rec) (l : List Rec) : followGo ep now i (r :: l) = if recOk r = true ∧ r.epoch = ep ∧ now ≤ r.time then followGo (if r.kind = 1 then ep + 1 else ep) r.time (i + 1) l else (ep, i, 16) := rfl
theorem follow_err (l : List Rec) : ∀ (ep now : Int) (i : Nat), (followGo ep now i l).2.2 = 0 ∨ (followGo ep now i l).2.2 = 16 := by
  induction l with
  | nil => intro ep now i; exact .inl rfl
  | cons r l ih =>
    intro ep now i
    rw [followGo_cons]
    split
    · exact ih _ _ _
    · exact .inr rfl
theorem follow_ok (l : List Rec) : ∀ (ep now : Int) (i : Nat), (followGo ep now i l).2.2 = 0 → (followGo ep now i l).1 = ep + (closes l : Int) ∧ (followGo ep now i l).2.1 = i + l.length ∧ FollowsOk ep l := by
  induction l with
  | nil => intro ep now i _; exact ⟨by simp [followGo, closes], rfl, ⟨fun k r h => by simp at h⟩⟩
  | cons r l ih =>
    intro ep now i h
    rw [followGo_cons] at h ⊢
    by_cases hc : recOk r = true ∧ r.epoch = ep ∧ now ≤ r.time
    · rw [if_pos hc] at h ⊢
      obtain ⟨h1, h2, h3⟩ := ih _ _ _ h
      refine ⟨?_, by rw [h2, List.length_cons]; omega, ⟨?_⟩⟩
      · rw [h1, closes_cons]
        by_cases hk : r.kind = 1 <;> simp [hk] <;> omega
      · intro k x hx
        cases k with
        | zero =>
          simp at hx
          subst hx
          exact ⟨hc.1, by simp [closes, hc.2.1]⟩
        | succ k =>
          obtain ⟨g1, g2⟩ := h3.each k x (by simpa using hx)
          refine ⟨g1, ?_⟩
          rw [g2, List.take_succ_cons, closes_cons]
          by_cases hk : r.kind = 1 <;> simp [hk] <;> omega
    · rw [if_neg hc] at h
      simp at h
theorem closes_mono (l : List Rec) (k : Nat) : closes (l.take k) ≤ closes l := by
  have h := List.take_append_drop k l
  have : closes l = closes (l.take k) + closes (l.drop k) := by
    conv => lhs; rw [← h]
    unfold closes
    rw [List.filter_append, List.length_append]
  omega
theorem closes_take_mono (l : List Rec) {j k : Nat} (h : j ≤ k) : closes (l.take j) ≤ closes (l.take k) := by
  have := closes_mono (l.take k) j
  rw [List.take_take, Nat.min_eq_left h] at this
  exact this
/-- Is a record too far beyond an epoch? -/
def beyondS (first : Int) (l : List Rec) : Bool := match l.getLast? with | some r => decide (4096 < r.epoch - first) | none => false
/-- At which place a tag is wrong, first. -/
def badTag (root : List UInt8) (f : Nat) (l : List Sld) : Option Nat :=
  (List.range l.length).find? (fun k => match l[k]? with | some x => decide (x.tag.data.toList ≠ wasS root f (l.map Sld.r) (k + 1)) | none => false)
/-- What Check tells: the open epoch, the place, the error. -/
def checkS (root : ByteArray) (first : Int) (l : List Sld) : Int × Int × Int :=
  if ¬ root.size = 32 ∨ first < 0 ∨ 4294967295 < first then (0, 0, 2)
  else if (followGo first 0 0 (l.map Sld.r)).2.2 ≠ 0 then ((followGo first 0 0 (l.map Sld.r)).1, ((followGo first 0 0 (l.map Sld.r)).2.1 : Nat), (followGo first 0 0 (l.map Sld.r)).2.2)
  else if beyondS first (l.map Sld.r) then (first, 0, 6)
  else match badTag root.data.toList first.toNat l with
    | some k => (match l[k]? with | some x => x.r.epoch | none => 0, (k : Int), 15)
    | none => ((followGo first 0 0 (l.map Sld.r)).1, ((followGo first 0 0 (l.map Sld.r)).2.1 : Nat), 0)
/-- May records be sealed? -/
structure SealOk (root : ByteArray) (first : Int) (l : List Rec) : Prop where
  root : root.size = 32
  first0 : 0 ≤ first
  first1 : first ≤ 4294967295
  follow : (followGo first 0 0 l).2.2 = 0
  near : beyondS first l = false
theorem SealOk.epochs {root : ByteArray} {first : Int} {l : List Rec} (h : SealOk root first l) : ∀ (k : Nat) (r : Rec), l[k]? = some r → recOk r = true ∧ r.epoch = first + (closes (l.take k) : Int) ∧ r.epoch - first ≤ 4096 := by
  intro k r hk
  obtain ⟨_, _, h3⟩ := follow_ok l _ _ _ h.follow
  obtain ⟨g1, g2⟩ := h3.each k r hk
  refine ⟨g1, g2, ?_⟩
  have hlen := (List.getElem?_eq_some_iff.1 hk).1
  obtain ⟨z, hz⟩ : ∃ z, l[l.length - 1]? = some z := ⟨_, List.getElem?_eq_getElem (by omega)⟩
  have hl : l.getLast? = some z := by rw [List.getLast?_eq_getElem?, hz]
  have hn := h.near
  unfold beyondS at hn
  rw [hl] at hn
  simp at hn
  have g4 := (h3.each _ z hz).2
  have := closes_take_mono l (show k ≤ l.length - 1 by omega)
  omega
theorem badTag_none {root : List UInt8} {f : Nat} {l : List Sld} : badTag root f l = none ↔ ∀ (k : Nat) (x : Sld), l[k]? = some x → x.tag.data.toList = wasS root f (l.map Sld.r) (k + 1) := by
  unfold badTag
  rw [List.find?_range_eq_none]
  constructor
  · intro h k x hx
    have := h k (List.getElem?_eq_some_iff.1 hx).1
    rw [hx] at this
    simpa using this
  · intro h k hk
    obtain ⟨x, hx⟩ : ∃ x, l[k]? = some x := ⟨_, List.getElem?_eq_getElem hk⟩
    rw [hx]
    simpa using h k x hx
theorem badTag_some {root : List UInt8} {f k : Nat} {l : List Sld} {x : Sld} (hx : l[k]? = some x) (hb : x.tag.data.toList ≠ wasS root f (l.map Sld.r) (k + 1)) (h : ∀ (j : Nat) (y : Sld), j < k → l[j]? = some y → y.tag.data.toList = wasS root f (l.map Sld.r) (j + 1)) : badTag root f l = some k := by
  unfold badTag
  rw [List.find?_range_eq_some]
  refine ⟨by rw [hx]; simpa using hb, by simpa using (List.getElem?_eq_some_iff.1 hx).1, fun j hj => ?_⟩
  obtain ⟨y, hy⟩ : ∃ x, l[j]? = some x := ⟨_, List.getElem?_eq_getElem (by have := (List.getElem?_eq_some_iff.1 hx).1; omega)⟩
  rw [hy]
  simpa using h j y hj hy
/-- Right sealed records. -/
theorem checkS_ok {root : ByteArray} {first : Int} {l : List Sld} (h : (checkS root first l).2.2 = 0) : SealOk root first (l.map Sld.r) ∧ (∀ (k : Nat) (x : Sld), l[k]? = some x → x.tag.data.toList = wasS root.data.toList first.toNat (l.map Sld.r) (k + 1)) ∧ checkS root first l = (first + (closes (l.map Sld.r) : Int), (l.length : Int), 0) := by
  unfold checkS at h ⊢
  by_cases c1 : ¬ root.size = 32 ∨ first < 0 ∨ 4294967295 < first
  · rw [if_pos c1] at h; simp at h
  · rw [if_neg c1] at h ⊢
    by_cases c2 : (followGo first 0 0 (l.map Sld.r)).2.2 ≠ 0
    · rw [if_pos c2] at h; exact absurd h c2
    · rw [if_neg c2] at h ⊢
      cases c3 : beyondS first (l.map Sld.r) with
      | true => rw [c3, if_pos rfl] at h; simp at h
      | false =>
        rw [c3] at h
        simp only [Bool.false_eq_true, if_false] at h ⊢
        cases c4 : badTag root.data.toList first.toNat l with
        | some k => rw [c4] at h; simp at h
        | none =>
          have c2' : (followGo first 0 0 (l.map Sld.r)).2.2 = 0 := by omega
          obtain ⟨g1, g2, _⟩ := follow_ok _ _ _ _ c2'
          refine ⟨⟨by omega, by omega, by omega, c2', c3⟩, badTag_none.1 c4, ?_⟩
          simp only
          rw [g1, g2]
          simp
end Go.Proofs.YtidekfbgjghcjaaGreat
