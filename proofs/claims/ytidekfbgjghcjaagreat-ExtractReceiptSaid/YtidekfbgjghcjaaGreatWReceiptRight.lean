/- Walk of ReceiptRight: for every root, first epoch and sealed records the law returns true. No condition. -/
import Derived.Test.YtidekfbgjghcjaaGreatRcpC
import Derived.Test.YtidekfbgjghcjaaGreatSeal2
import Derived.Test.YtidekfbgjghcjaaGreatG8
namespace Go.Proofs.YtidekfbgjghcjaaGreat
set_option linter.unusedSimpArgs false
set_option linter.unusedVariables false
open Go Go.RowKit
set_option linter.unusedVariables false

/-- Sealed records that are right. -/
structure RightRow (root : ByteArray) (first : Int) (l : List Sld) : Prop where
  ok : SealOk root first (l.map Sld.r)
  tags : ∀ (k : Nat) (x : Sld), l[k]? = some x → x.tag.data.toList = wasS root.data.toList first.toNat (l.map Sld.r) (k + 1)
section
variable {root : ByteArray} {first : Int} {l : List Sld} (h : RightRow root first l)
include h
theorem RightRow.last {k : Nat} (hk : k ≤ l.length) : (lastB (l.take k)).data.toList = wasS root.data.toList first.toNat (l.map Sld.r) k := by
  cases k with
  | zero => rfl
  | succ k =>
    obtain ⟨x, hx⟩ : ∃ x, l[k]? = some x := ⟨_, List.getElem?_eq_getElem (by omega)⟩
    have hl : (l.take (k + 1)).getLast? = some x := by
      rw [List.getLast?_eq_getElem?, List.length_take, Nat.min_eq_left (by omega), List.getElem?_take, if_pos (by omega)]
      exact hx
    unfold lastB
    rw [hl]
    exact h.tags k x hx
theorem RightRow.rcp {k : Nat} {x : Sld} (hx : l[k]? = some x) (hk : x.r.kind = 1) (hl : l.length ≤ 1048576) : rcpOk (rcpAt l k x) = true := by
  have hlen := (List.getElem?_eq_some_iff.1 hx).1
  obtain ⟨g1, _, _⟩ := h.ok.epochs k x.r (map_at hx)
  have e1 : (lastB (l.take k)).size = 32 := by
    have := congrArg List.length (h.last (k := k) (by omega))
    rw [wasS_len (by rw [List.length_map]; omega)] at this
    exact this
  have e2 : x.tag.size = 32 := by
    have := congrArg List.length (h.tags k x hx)
    rw [wasS_len (by rw [List.length_map]; omega)] at this
    exact this
  simp only [rcpOk, Bool.and_eq_true, decide_eq_true_eq]
  refine ⟨⟨⟨⟨⟨?_, ?_⟩, g1⟩, hk⟩, ?_⟩, ?_⟩
  · show (0 : Int) ≤ (k : Int); omega
  · show (k : Int) ≤ 4294967295; omega
  · show ((lastB (l.take k)).size : Int) = 32; omega
  · show (x.tag.size : Int) = 32; omega
theorem RightRow.make {k : Nat} {x : Sld} (hx : l[k]? = some x) (hk : x.r.kind = 1) (hl : l.length ≤ 1048576) : makeS l k = (rcpAt l k x, 0) := by rw [makeS_at hx hk, h.rcp hx hk hl, if_pos rfl]
theorem RightRow.chk {k : Nat} {x : Sld} (hx : l[k]? = some x) (hk : x.r.kind = 1) (hl : l.length ≤ 1048576) : rchkS root first (rcpAt l k x) = 0 := by
  have hlen := (List.getElem?_eq_some_iff.1 hx).1
  obtain ⟨g1, g2, g3⟩ := h.ok.epochs k x.r (map_at hx)
  have hf0 := h.ok.first0
  have hr := h.ok.root
  unfold rchkS
  rw [if_neg (by rw [h.rcp hx hk hl]; simp; exact hr), if_neg (by show ¬ (x.r.epoch < first ∨ first < 0); omega), if_neg (by show ¬ (4096 < x.r.epoch - first); omega), if_pos]
  show tagC (atL root.data.toList first.toNat (x.r.epoch - first).toNat) (lastB (l.take k)).data.toList (k : Int) x.r = x.tag.data.toList
  rw [h.last (by omega), h.tags k x hx, wasS_at (map_at hx)]
  congr 2
  omega
theorem RightRow.all (hl : l.length ≤ 1048576) : ∀ n, n ≤ l.length → (allS l n).length = closes ((l.map Sld.r).take n) ∧ ∀ (i : Nat) (y : Rcp), (allS l n)[i]? = some y → ∃ (k : Nat) (x : Sld), l[k]? = some x ∧ x.r.kind = 1 ∧ y = rcpAt l k x ∧ closes ((l.map Sld.r).take k) = i := by
  intro n
  induction n with
  | zero => intro _; exact ⟨by simp [allS, closes], fun i y hy => by simp [allS] at hy⟩
  | succ n ih =>
    intro hn
    obtain ⟨h1, h2⟩ := ih (by omega)
    obtain ⟨x, hx⟩ : ∃ x, l[n]? = some x := ⟨_, List.getElem?_eq_getElem (by omega)⟩
    rw [allS_succ, closes_take_succ (map_at hx)]
    by_cases hk : x.r.kind = 1
    · rw [h.make hx hk hl, if_pos rfl, if_pos hk]
      refine ⟨by rw [List.length_append, h1]; rfl, fun i y hy => ?_⟩
      by_cases hi : i < (allS l n).length
      · rw [List.getElem?_append_left hi] at hy
        exact h2 i y hy
      · rw [List.getElem?_append_right (by omega)] at hy
        have hi0 : i - (allS l n).length = 0 := by
          by_cases hz : i - (allS l n).length = 0
          · exact hz
          · rw [List.getElem?_eq_none (by simp; omega)] at hy; cases hy
        rw [hi0] at hy
        simp at hy
        exact ⟨n, x, hx, hk, hy.symm, by omega⟩
    · have hm : makeS l (n : Int) = (Rcp.zero, 7) := makeS_none (by rw [closeAt_at hx, if_neg hk])
      rw [hm, if_neg (by decide), if_neg hk, List.append_nil, Nat.add_zero]
      exact ⟨h1, h2⟩
end
theorem ofS_at {l : List Sld} {k : Nat} {x : Sld} (hm : makeS l k = (rcpAt l k x, 0)) : ofS l (rcpAt l k x) = true := by
  unfold ofS
  rw [show (rcpAt l k x).seq = (k : Int) from rfl, hm]
  simp

end Go.Proofs.YtidekfbgjghcjaaGreat
