/- Two rows of sealed records: the first place at which they part, and what follows where both are right (chapter 20, P20.5, P20.7). No program in sight. -/
import Derived.Test.YtmiikdkdccheeaaWReceiptSound
import Derived.Test.YtmiikdkdccheeaaPartS
namespace Go.Proofs.Ytmiikdkdccheeaa
set_option linter.unusedSimpArgs false
set_option linter.unusedVariables false
open Go
set_option linter.unusedVariables false

/-- Same rows, up to a place. -/
theorem PartAt.take {l m : List Sld} {k : Nat} (h : ∀ j, j < k → l[j]? = m[j]?) : l.take k = m.take k := by
  apply List.ext_getElem?
  intro i
  rw [List.getElem?_take, List.getElem?_take]
  by_cases hi : i < k
  · rw [if_pos hi, if_pos hi, h i hi]
  · rw [if_neg hi, if_neg hi]

/-- Both have the same records of the epochs below one. -/
def SameBelow (a b : List Sld) (below : Int) : Prop := ∀ (k : Nat) (x : Sld), a[k]? = some x → below ≤ x.r.epoch ∨ b[k]? = some x
/-- .. up to a place. -/
def sameB (a b : List Sld) (below : Int) : Nat → Bool
  | 0 => true
  | k + 1 => sameB a b below k && match a[k]? with | some x => decide (below ≤ x.r.epoch) || decide (b[k]? = some x) | none => true
theorem sameB_succ {a b : List Sld} {below : Int} {k : Nat} {x : Sld} (h : a[k]? = some x) : sameB a b below (k + 1) = (sameB a b below k && (decide (below ≤ x.r.epoch) || decide (b[k]? = some x))) := by
  show (_ && match a[k]? with | some x => _ | none => _) = _
  rw [h]
theorem sameB_to {a b : List Sld} {below : Int} : ∀ {k : Nat}, k ≤ a.length → (sameB a b below k = true ↔ ∀ (j : Nat) (x : Sld), j < k → a[j]? = some x → below ≤ x.r.epoch ∨ b[j]? = some x) := by
  intro k
  induction k with
  | zero => intro _; simp [sameB]
  | succ k ih =>
    intro hk
    obtain ⟨x, hx⟩ : ∃ x, a[k]? = some x := ⟨_, List.getElem?_eq_getElem (by omega)⟩
    rw [sameB_succ hx, Bool.and_eq_true, ih (by omega), Bool.or_eq_true, decide_eq_true_eq, decide_eq_true_eq]
    constructor
    · rintro ⟨h1, h2⟩ j y hj hy
      by_cases hjk : j = k
      · subst hjk
        rw [hx] at hy
        obtain rfl := Option.some.inj hy
        exact h2
      · exact h1 j y (by omega) hy
    · intro h
      exact ⟨fun j y hj hy => h j y (by omega) hy, h k x (by omega) hx⟩
theorem sameB_all {a b : List Sld} {below : Int} : sameB a b below a.length = true ↔ SameBelow a b below := by
  rw [sameB_to (Nat.le_refl _)]
  exact ⟨fun h k x hx => h k x (List.getElem?_eq_some_iff.1 hx).1 hx, fun h j x _ hx => h j x hx⟩
/-- Rows that are right up to an epoch. -/
structure RightTo (root : ByteArray) (first : Int) (l : List Sld) (below : Int) : Prop where
  row : RightRow root first l
  far : below ≤ first + (closes (l.map Sld.r) : Int)

section
variable {root : ByteArray} {first below : Int} {l m : List Sld}
theorem RightTo.epoch (h : RightTo root first l below) {k : Nat} {x : Sld} (hx : l[k]? = some x) : x.r.epoch = first + (closes ((l.map Sld.r).take k) : Int) := (h.row.ok.epochs k x.r (map_at hx)).2.1
theorem RightTo.epochM (h : RightTo root first l below) {j k : Nat} {x y : Sld} (hx : l[j]? = some x) (hy : l[k]? = some y) (hjk : j ≤ k) : x.r.epoch ≤ y.r.epoch := by
  rw [h.epoch hx, h.epoch hy]
  have := closes_take_mono (l.map Sld.r) hjk
  omega
/-- Where the parting place is of an epoch that is not below, or there is none, both have the same. -/
theorem same_of_no (hl : RightTo root first l below) (hm : RightTo root first m below) (h : NoPart l m ∨ ∃ k t, PartAt l m k ∧ m[k]? = some t ∧ below ≤ t.r.epoch) : SameBelow l m below ∧ SameBelow m l below := by
  rcases h with h | ⟨k, t, hp, ht, hb⟩
  · refine ⟨fun j x hx => ?_, fun j x hx => .inr ?_⟩
    · by_cases hj : j < m.length
      · right; rw [← h j hj]; exact hx
      · left
        have e1 : l.take m.length = m := by
          have := PartAt.take (k := m.length) h
          rwa [List.take_length] at this
        have e2 : (l.map Sld.r).take m.length = m.map Sld.r := by rw [← List.map_take, e1]
        have h1 := hl.epoch hx
        have h2 := hm.far
        have h3 := closes_take_mono (l.map Sld.r) (show m.length ≤ j by omega)
        rw [e2] at h3
        omega
    · rw [h j (List.getElem?_eq_some_iff.1 hx).1]; exact hx
  · have e1 := PartAt.take hp.2.2
    have e2 : (l.map Sld.r).take k = (m.map Sld.r).take k := by rw [← List.map_take, ← List.map_take, e1]
    have e3 := hm.epoch ht
    refine ⟨fun j x hx => ?_, fun j x hx => ?_⟩
    · by_cases hj : j < k
      · right; rw [← hp.2.2 j hj]; exact hx
      · left
        have h1 := hl.epoch hx
        have h3 := closes_take_mono (l.map Sld.r) (show k ≤ j by omega)
        rw [e2] at h3
        omega
    · by_cases hj : j < k
      · right; rw [hp.2.2 j hj]; exact hx
      · left
        have := hm.epochM ht hx (by omega)
        omega
/-- Where it is of an epoch that is below, both have not the same. -/
theorem not_same {k : Nat} {t : Sld} (hp : PartAt l m k) (ht : m[k]? = some t) (hb : t.r.epoch < below) : ¬ SameBelow m l below := by
  intro h
  rcases h k t ht with h1 | h1
  · omega
  · exact hp.2.1 (by rw [h1, ht])
/-- What is said at the parting place can be said; the tag is the one under the key of its epoch. -/
theorem part_tag (hm : RightTo root first m below) {k : Nat} {t : Sld} (ht : m[k]? = some t) :
    first ≤ t.r.epoch ∧ t.r.epoch - first ≤ 4096 ∧ t.tag.data.toList = tagC (atL root.data.toList first.toNat (t.r.epoch - first).toNat) (lastB (m.take k)).data.toList (k : Int) t.r := by
  have h1 := hm.row.tags k t ht
  have h2 := hm.row.ok.epochs k t.r (map_at ht)
  have hlen := (List.getElem?_eq_some_iff.1 ht).1
  have h3 := hm.row.last (k := k) (by omega)
  have h4 := hm.row.ok.first0
  refine ⟨by omega, h2.2.2, ?_⟩
  rw [h1, wasS_at (map_at ht), h3]
  rw [show (t.r.epoch - first).toNat = t.r.epoch.toNat - first.toNat by omega]
theorem part_said (hm : RightTo root first m below) (hs : m.length ≤ 1048576) {k : Nat} {t : Sld} (ht : m[k]? = some t) : saidCOk (lastB (m.take k)) (k : Int) t.r := by
  have q1 := (hm.row.ok.epochs k t.r (map_at ht)).1
  have hlen := (List.getElem?_eq_some_iff.1 ht).1
  have hl2 := hm.row.last (k := k) (by omega)
  refine ⟨?_, by omega, by omega, q1⟩
  have := congrArg List.length hl2
  rw [wasS_len (by rw [List.length_map]; omega)] at this
  exact this
/-- None of mine is said as the message at the parting place. -/
theorem part_apart (hl : RightTo root first l below) (hm : RightTo root first m below) (sl : l.length ≤ 1048576) (sm : m.length ≤ 1048576) {k : Nat} {t : Sld} (hp : PartAt l m k) (ht : m[k]? = some t) {j : Nat} {y : Sld} (hy : l[j]? = some y) :
    saidC (lastB (l.take j)).data.toList j y.r ≠ saidC (lastB (m.take k)).data.toList k t.r := by
  intro he
  have a1 := part_said hl sl hy
  have a2 := part_said hm sm ht
  have ha1 : (lastB (l.take j)).data.toList.length = 32 := a1.1
  have ha2 : (lastB (m.take k)).data.toList.length = 32 := a2.1
  obtain ⟨i1, i2, i3⟩ := saidC_inj ha1 ha2 ⟨a1.2.1, a1.2.2.1⟩ ⟨a2.2.1, a2.2.2.1⟩ a1.2.2.2 a2.2.2.2 he
  obtain rfl : j = k := by omega
  have b1 := (part_tag hl hy).2.2
  have b2 := (part_tag hm ht).2.2
  rw [i1, i3] at b1
  have e : y.tag = t.tag := bytes_of_data (by rw [b1, b2])
  refine hp.2.1 ?_
  rw [hy, ht]
  obtain ⟨yr, yt⟩ := y
  obtain ⟨tr, tt⟩ := t
  simp only at e i3
  rw [e, i3]
end
end Go.Proofs.Ytmiikdkdccheeaa
