/- Walk of ExtractRight: for every root, first epoch, what was made, epoch and finding (texts that are not too long) the law returns true. -/
import Derived.Test.YtidekfbgjghcjaaGreatWExrK
import Derived.Test.YtidekfbgjghcjaaGreatG33
namespace Go.Proofs.YtidekfbgjghcjaaGreat
set_option linter.unusedSimpArgs false
set_option linter.unusedVariables false
open Go Go.RowKit

set_option maxRecDepth 100000 in
theorem extractRight_law (key : ByteArray) (first : Int) (h : HonD) (below : Int) (f : Fnd) (w : World) (hfst : Fits first) (hh : HonFits w h) (hff : FndFits f) (hn : h.hl.length ≤ 1048576) (hz : f.a.size ≤ 1048576 ∧ f.b.size ≤ 1048576 ∧ f.msg.size ≤ 1048576 ∧ f.tag.size ≤ 1048576) :
    Calls Tryz.prog 4 #[.string key, .int .i64 first, h.v, .int .i64 below, f.v] w fun e w' => e = .returned (.bool true) ∧ Below w.heap.size w w' := by
  obtain ⟨sv, sl, cv, cl, hv, hl⟩ := h
  obtain ⟨kind, fa, fb, epoch, fm, ft⟩ := f
  obtain ⟨p, n, c, hve⟩ : ∃ p n c, hv = Value.slice p n c := by
    rcases hh.nl with h | ⟨ad, m, c', h⟩
    · exact ⟨_, _, _, h⟩
    · exact ⟨_, _, _, h⟩
  subst hve
  have hs : SldRow w sv sl := hh.slds.row
  have hv1 : sv.oneCell' = true := by obtain ⟨p', c', h'⟩ := hs.shape; rw [h']; rfl
  have hv2 : cv.oneCell' = true := by obtain ⟨p', c', h'⟩ := hh.cells.shape; have h2 : cv = _ := h'; rw [h2]; rfl
  cases hkd : decide ((1000:Int) < key.size) with
  | true => exact extractRight_long key first sv cv p n c sl cl hl below kind epoch fa fb fm ft w hkd
  | false =>
    cases hf : fewS sl with
    | false => exact extractRight_few key first sv cv p n c sl cl hl below kind epoch fa fb fm ft w hs hv1 hv2 hkd hf
    | true =>
      have hsl : sl.length ≤ 1048576 := Nat.le_trans (fewS_len hf) (by decide)
      have htm : SldTame sl := by
        intro j y hy
        have := fewS_each hf j y hy
        exact ⟨by omega, by omega, by omega, (hh.slds.fits j y hy).epoch⟩
      cases hbig : decide ((5000:Int) < (fa.size : Int) + fb.size + fm.size + ft.size) with
      | true => exact extractRight_big key first sv cv p n c sl cl hl below kind epoch fa fb fm ft w hs hv1 hv2 hh.cells hh.heads hh.fits hh.nl hn hsl htm hz hkd hf hbig
      | false =>
        by_cases hgc : 0 ≤ first ∧ first ≤ epoch ∧ 40 < epoch - first ∧ epoch - first ≤ 4096
        · exact extractRight_far key first sv cv p n c sl cl hl below kind epoch fa fb fm ft w hs hv1 hv2 hh.cells hh.heads hh.fits hh.nl hn hsl htm hz hkd hf hbig hfst hff.epoch hgc.1 hgc.2.1 hgc.2.2.1 hgc.2.2.2
        exact extractRight_main key first sv cv p n c sl cl hl below kind epoch fa fb fm ft w hs hv1 hv2 hh.cells hh.heads hh.fits hh.nl hn hsl htm hz hkd hf hbig hfst hff.epoch hgc
end Go.Proofs.YtidekfbgjghcjaaGreat
