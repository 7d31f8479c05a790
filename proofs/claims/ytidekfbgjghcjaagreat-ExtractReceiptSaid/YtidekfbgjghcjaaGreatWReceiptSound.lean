/- Walk of ReceiptSound: for every root, first epoch, sealed records and receipt the law returns true. No condition. -/
import Derived.Test.YtidekfbgjghcjaaGreatWReceiptRight
import Derived.Test.YtidekfbgjghcjaaGreatRecInj
import Derived.Test.YtidekfbgjghcjaaGreatG9
import Derived.Deep.RegionWith
namespace Go.Proofs.YtidekfbgjghcjaaGreat
set_option linter.unusedSimpArgs false
set_option linter.unusedVariables false
open Go Go.RowKit
set_option linter.unusedVariables false

theorem rchkS_ok {root : ByteArray} {first : Int} {x : Rcp} (h : rchkS root first x = 0) : root.size = 32 ∧ rcpOk x = true ∧ first ≤ x.r.epoch ∧ 0 ≤ first ∧ x.r.epoch - first ≤ 4096 ∧ tagC (atL root.data.toList first.toNat (x.r.epoch - first).toNat) x.was.data.toList x.seq x.r = x.tag.data.toList := by
  unfold rchkS at h
  split at h
  · omega
  · next h1 =>
    split at h
    · omega
    · split at h
      · omega
      · split at h
        · next h4 =>
          refine ⟨by by_cases hh : root.size = 32 <;> simp_all, by cases hh : rcpOk x <;> simp_all, by omega, by omega, by omega, h4⟩
        · omega
theorem sound_apart {root : ByteArray} {first : Int} {l : List Sld} {x : Rcp} (h : RightRow root first l) (hl : l.length ≤ 1048576) (hx : rchkS root first x = 0) (hof : ofS l x = false) {k : Nat} {y : Sld} (hy : l[k]? = some y) :
    saidC (lastB (l.take k)).data.toList k y.r ≠ saidC x.was.data.toList x.seq x.r := by
  intro he
  obtain ⟨g1, g2, g3, g4, g5, g6⟩ := rchkS_ok hx
  have hlen := (List.getElem?_eq_some_iff.1 hy).1
  obtain ⟨q1, q2, q3⟩ := h.ok.epochs k y.r (map_at hy)
  have hlast := h.last (k := k) (by omega)
  have e1 : (lastB (l.take k)).data.toList.length = 32 := by rw [hlast, wasS_len (by rw [List.length_map]; omega)]
  have hr := g2
  simp only [rcpOk, Bool.and_eq_true, decide_eq_true_eq] at hr
  have e2 : x.was.data.toList.length = 32 := by show x.was.size = 32; omega
  obtain ⟨i1, i2, i3⟩ := saidC_inj e1 e2 ⟨by omega, by omega⟩ ⟨by omega, by omega⟩ q1 hr.1.1.1.2 he
  have hk : y.r.kind = 1 := by rw [i3]; omega
  have hm := h.make hy hk hl
  have hxe : rcpAt l k y = x := by
    have t1 := h.tags k y hy
    rw [wasS_at (map_at hy), ← hlast, i1, i3] at t1
    have e3 : x.r.epoch.toNat - first.toNat = (x.r.epoch - first).toNat := by omega
    rw [e3, i2, g6] at t1
    obtain ⟨s, r, w, t⟩ := x
    simp only at i1 i2 i3 t1
    subst i3
    have w1 := bytes_of_data i1
    have w2 := bytes_of_data t1
    unfold rcpAt
    rw [w1, w2, i2]
  rw [← hxe, ofS_at hm] at hof
  cases hof

end Go.Proofs.YtidekfbgjghcjaaGreat
