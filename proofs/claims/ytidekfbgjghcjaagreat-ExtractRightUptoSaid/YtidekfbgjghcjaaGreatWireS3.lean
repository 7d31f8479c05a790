/- Walk of the documents' Same of two messages (chapter 27). -/
import Derived.Test.YtidekfbgjghcjaaGreatWireS3A
import Derived.Test.YtidekfbgjghcjaaGreatWireS3B
namespace Go.Proofs.YtidekfbgjghcjaaGreat
set_option linter.unusedSimpArgs false
set_option linter.unusedVariables false
open Go Go.RowKit

theorem same27_walk (m n : MsgD) (u l u' l' : Value) (w : World) (hu : PRow w u m.told.up) (hl : PRow w l m.told.left) (hu' : PRow w u' n.told.up) (hl' : PRow w l' n.told.left) (hul : Long m.told.up.length) (hll : Long m.told.left.length) (hul' : Long n.told.up.length) (hll' : Long n.told.left.length) :
    Calls Tryz.prog 38 #[m.v u l, n.v u' l'] w fun e w' => e = .returned (.bool (decide (m = n))) ∧ Below w.heap.size w w' := by
  obtain ⟨kind, epoch, seq, nonce, tag, last, askE, askL, sld, ⟨tE, tL, g, f, at_, here, ahead, up, left, sl, ci⟩, rcp⟩ := m
  obtain ⟨kind', epoch', seq', nonce', tag', last', askE', askL', sld', ⟨tE', tL', g', f', at_', here', ahead', up', left', sl', ci'⟩, rcp'⟩ := n
  by_cases h0 : kind = kind'
  rotate_left
  · exact (same27_0 kind kind' epoch epoch' seq seq' nonce nonce' tag tag' last last' askE askE' askL askL' sld sld' rcp rcp' tE tE' tL tL' g g' sl sl' ci ci' f f' at_ at_' here here' ahead ahead' up up' left left' u l u' l' w h0).mono fun e w' ⟨he, hb⟩ => ⟨by rw [he, decide_eq_false (fun hh => h0 (congrArg (fun x : MsgD => x.kind) hh))], hb⟩
  subst h0
  by_cases h1 : epoch = epoch'
  rotate_left
  · exact (same27_1 kind epoch epoch' seq seq' nonce nonce' tag tag' last last' askE askE' askL askL' sld sld' rcp rcp' tE tE' tL tL' g g' sl sl' ci ci' f f' at_ at_' here here' ahead ahead' up up' left left' u l u' l' w h1).mono fun e w' ⟨he, hb⟩ => ⟨by rw [he, decide_eq_false (fun hh => h1 (congrArg (fun x : MsgD => x.epoch) hh))], hb⟩
  subst h1
  by_cases h2 : seq = seq'
  rotate_left
  · exact (same27_2 kind epoch seq seq' nonce nonce' tag tag' last last' askE askE' askL askL' sld sld' rcp rcp' tE tE' tL tL' g g' sl sl' ci ci' f f' at_ at_' here here' ahead ahead' up up' left left' u l u' l' w h2).mono fun e w' ⟨he, hb⟩ => ⟨by rw [he, decide_eq_false (fun hh => h2 (congrArg (fun x : MsgD => x.seq) hh))], hb⟩
  subst h2
  by_cases h3 : nonce = nonce'
  rotate_left
  · exact (same27_3 kind epoch seq nonce nonce' tag tag' last last' askE askE' askL askL' sld sld' rcp rcp' tE tE' tL tL' g g' sl sl' ci ci' f f' at_ at_' here here' ahead ahead' up up' left left' u l u' l' w h3).mono fun e w' ⟨he, hb⟩ => ⟨by rw [he, decide_eq_false (fun hh => h3 (congrArg (fun x : MsgD => x.nonce) hh))], hb⟩
  subst h3
  by_cases h4 : tag = tag'
  rotate_left
  · exact (same27_4 kind epoch seq nonce tag tag' last last' askE askE' askL askL' sld sld' rcp rcp' tE tE' tL tL' g g' sl sl' ci ci' f f' at_ at_' here here' ahead ahead' up up' left left' u l u' l' w h4).mono fun e w' ⟨he, hb⟩ => ⟨by rw [he, decide_eq_false (fun hh => h4 (congrArg (fun x : MsgD => x.tag) hh))], hb⟩
  subst h4
  by_cases h5 : last = last'
  rotate_left
  · exact (same27_5 kind epoch seq nonce tag last last' askE askE' askL askL' sld sld' rcp rcp' tE tE' tL tL' g g' sl sl' ci ci' f f' at_ at_' here here' ahead ahead' up up' left left' u l u' l' w h5).mono fun e w' ⟨he, hb⟩ => ⟨by rw [he, decide_eq_false (fun hh => h5 (congrArg (fun x : MsgD => x.last) hh))], hb⟩
  subst h5
  by_cases h6 : askE = askE'
  rotate_left
  · exact (same27_6 kind epoch seq nonce tag last askE askE' askL askL' sld sld' rcp rcp' tE tE' tL tL' g g' sl sl' ci ci' f f' at_ at_' here here' ahead ahead' up up' left left' u l u' l' w h6).mono fun e w' ⟨he, hb⟩ => ⟨by rw [he, decide_eq_false (fun hh => h6 (congrArg (fun x : MsgD => x.askE) hh))], hb⟩
  subst h6
  by_cases h7 : askL = askL'
  rotate_left
  · exact (same27_7 kind epoch seq nonce tag last askE askL askL' sld sld' rcp rcp' tE tE' tL tL' g g' sl sl' ci ci' f f' at_ at_' here here' ahead ahead' up up' left left' u l u' l' w h7).mono fun e w' ⟨he, hb⟩ => ⟨by rw [he, decide_eq_false (fun hh => h7 (congrArg (fun x : MsgD => x.askL) hh))], hb⟩
  subst h7
  by_cases h8 : sld = sld'
  rotate_left
  · exact (same27_8 kind epoch seq nonce tag last askE askL sld sld' rcp rcp' tE tE' tL tL' g g' sl sl' ci ci' f f' at_ at_' here here' ahead ahead' up up' left left' u l u' l' w h8).mono fun e w' ⟨he, hb⟩ => ⟨by rw [he, decide_eq_false (fun hh => h8 (congrArg (fun x : MsgD => x.sld) hh))], hb⟩
  subst h8
  by_cases h9 : rcp = rcp'
  rotate_left
  · exact (same27_9 kind epoch seq nonce tag last askE askL sld rcp rcp' tE tE' tL tL' g g' sl sl' ci ci' f f' at_ at_' here here' ahead ahead' up up' left left' u l u' l' w h9).mono fun e w' ⟨he, hb⟩ => ⟨by rw [he, decide_eq_false (fun hh => h9 (congrArg (fun x : MsgD => x.rcp) hh))], hb⟩
  subst h9
  by_cases h10 : tE = tE'
  rotate_left
  · exact (same27_10 kind epoch seq nonce tag last askE askL sld rcp tE tE' tL tL' g g' sl sl' ci ci' f f' at_ at_' here here' ahead ahead' up up' left left' u l u' l' w h10).mono fun e w' ⟨he, hb⟩ => ⟨by rw [he, decide_eq_false (fun hh => h10 (congrArg (fun x : MsgD => x.told.askE) hh))], hb⟩
  subst h10
  by_cases h11 : tL = tL'
  rotate_left
  · exact (same27_11 kind epoch seq nonce tag last askE askL sld rcp tE tL tL' g g' sl sl' ci ci' f f' at_ at_' here here' ahead ahead' up up' left left' u l u' l' w h11).mono fun e w' ⟨he, hb⟩ => ⟨by rw [he, decide_eq_false (fun hh => h11 (congrArg (fun x : MsgD => x.told.askL) hh))], hb⟩
  subst h11
  by_cases h12 : g = g'
  rotate_left
  · exact (same27_12 kind epoch seq nonce tag last askE askL sld rcp tE tL g g' sl sl' ci ci' f f' at_ at_' here here' ahead ahead' up up' left left' u l u' l' w h12).mono fun e w' ⟨he, hb⟩ => ⟨by rw [he, decide_eq_false (fun hh => h12 (congrArg (fun x : MsgD => x.told.gone) hh))], hb⟩
  subst h12
  by_cases h13 : sl = sl'
  rotate_left
  · exact (same27_13 kind epoch seq nonce tag last askE askL sld rcp tE tL g sl sl' ci ci' f f' at_ at_' here here' ahead ahead' up up' left left' u l u' l' w h13).mono fun e w' ⟨he, hb⟩ => ⟨by rw [he, decide_eq_false (fun hh => h13 (congrArg (fun x : MsgD => x.told.slot) hh))], hb⟩
  subst h13
  by_cases h14 : ci = ci'
  rotate_left
  · exact (same27_14 kind epoch seq nonce tag last askE askL sld rcp tE tL g sl ci ci' f f' at_ at_' here here' ahead ahead' up up' left left' u l u' l' w h14).mono fun e w' ⟨he, hb⟩ => ⟨by rw [he, decide_eq_false (fun hh => h14 (congrArg (fun x : MsgD => x.told.cipher) hh))], hb⟩
  subst h14
  refine (same27_15 kind epoch seq nonce tag last askE askL sld rcp tE tL g sl ci f f' at_ at_' here here' ahead ahead' up up' left left' u l u' l' w hu hl hu' hl' hul hll hul' hll').mono fun e w' ⟨he, hb⟩ => ⟨by rw [he]; refine ret_b ?_; rw [Bool.eq_iff_iff]; simp only [proofEq, Bool.and_eq_true, decide_eq_true_eq, MsgD.mk.injEq, ToldD.mk.injEq, true_and, and_true, and_assoc], hb⟩
end Go.Proofs.YtidekfbgjghcjaaGreat

