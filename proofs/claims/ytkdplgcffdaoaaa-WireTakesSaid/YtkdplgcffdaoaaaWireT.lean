/- What is read is of machine size (chapter 27). No program in sight. -/
import Derived.Test.YtkdplgcffdaoaaaG15
import Derived.Test.YtkdplgcffdaoaaaG14
namespace Go.Proofs.Ytkdplgcffdaoaaa
set_option linter.unusedSimpArgs false
set_option linter.unusedVariables false
open Go
set_option linter.unusedVariables false

theorem strF_r32 {y x : ByteArray} {s s' : List UInt8} (h : strF true y s = some (x, s')) : x.size ≤ 32 := by
  unfold strF at h
  rw [if_pos rfl] at h
  split at h
  · cases h
  · simp only [Option.some.injEq, Prod.mk.injEq] at h
    rw [← h.1]
    show (s.take 32).toArray.size ≤ 32
    rw [List.size_toArray, List.length_take]; omega
theorem leafF_tame {y x : LeafD} {s s' : List UInt8} (h : leafF true y s = some (x, s')) (hy : y.hash.size ≤ 32) : x.hash.size ≤ 32 := by
  unfold leafF at h
  cases h1 : flagF true (decide (y ≠ LeafD.zero)) s with
  | none => rw [h1] at h; cases h
  | some p =>
    obtain ⟨a, s1⟩ := p
    rw [h1] at h
    cases a with
    | false => simp only [Option.some.injEq, Prod.mk.injEq] at h; rw [← h.1]; exact hy
    | true =>
      simp only at h
      cases h2 : numF true 2 y.lba s1 with
      | none => rw [h2] at h; cases h
      | some p =>
        obtain ⟨b, s2⟩ := p
        rw [h2] at h
        simp only at h
        cases h3 : strF true y.hash s2 with
        | none => rw [h3] at h; cases h
        | some p =>
          obtain ⟨c, s3⟩ := p
          rw [h3] at h
          simp only [Option.some.injEq, Prod.mk.injEq] at h
          rw [← h.1]
          exact strF_r32 h3
/-- What a place has is of machine size. -/
structure ToldTame (t : ToldD) : Prop where
  up : t.up.length ≤ 256
  left : t.left.length ≤ 256
  here : t.here.hash.size ≤ 32
  ahead : t.ahead.hash.size ≤ 32
theorem toldF2_tame {t t' : ToldD} {s s' : List UInt8} (h : toldF2 true t s = some (t', s')) (ht : ToldTame t) : ToldTame t' := by
  unfold toldF2 at h
  cases h1 : numF true 4 t.slot s with
  | none => rw [h1] at h; cases h
  | some p =>
  obtain ⟨a1, s1⟩ := p
  rw [h1] at h; simp only at h
  cases h2 : textF true t.cipher s1 with
  | none => rw [h2] at h; cases h
  | some p =>
  obtain ⟨a2, s2⟩ := p
  rw [h2] at h; simp only at h
  cases h3 : flagF true t.found s2 with
  | none => rw [h3] at h; cases h
  | some p =>
  obtain ⟨a3, s3⟩ := p
  rw [h3] at h; simp only at h
  cases h4 : numF true 4 t.at_ s3 with
  | none => rw [h4] at h; cases h
  | some p =>
  obtain ⟨a4, s4⟩ := p
  rw [h4] at h; simp only at h
  cases h5 : leafF true t.here s4 with
  | none => rw [h5] at h; cases h
  | some p =>
  obtain ⟨a5, s5⟩ := p
  rw [h5] at h; simp only at h
  cases h6 : leafF true t.ahead s5 with
  | none => rw [h6] at h; cases h
  | some p =>
  obtain ⟨a6, s6⟩ := p
  rw [h6] at h; simp only at h
  cases h7 : pathF true t.up s6 with
  | none => rw [h7] at h; cases h
  | some p =>
  obtain ⟨a7, s7⟩ := p
  rw [h7] at h; simp only at h
  cases h8 : pathF true t.left s7 with
  | none => rw [h8] at h; cases h
  | some p =>
  obtain ⟨a8, s8⟩ := p
  rw [h8] at h
  simp only [Option.some.injEq, Prod.mk.injEq] at h
  rw [← h.1]
  exact ⟨(pathF_len h7 (fun e => by cases e) (fun e => by cases e)).2, (pathF_len h8 (fun e => by cases e) (fun e => by cases e)).2, leafF_tame h5 ht.here, leafF_tame h6 ht.ahead⟩
theorem toldF_tame {t t' : ToldD} {s s' : List UInt8} (h : toldF true t s = some (t', s')) (ht : ToldTame t) : ToldTame t' := by
  unfold toldF at h
  cases h1 : askF true t.askE t.askL s with
  | none => rw [h1] at h; cases h
  | some p =>
  obtain ⟨⟨e, l⟩, s1⟩ := p
  rw [h1] at h; simp only at h
  cases h2 : flagF true t.gone s1 with
  | none => rw [h2] at h; cases h
  | some p =>
  obtain ⟨g, s2⟩ := p
  rw [h2] at h
  cases g with
  | true => simp only [Option.some.injEq, Prod.mk.injEq] at h; rw [← h.1]; exact ⟨ht.up, ht.left, ht.here, ht.ahead⟩
  | false => exact toldF2_tame h ⟨ht.up, ht.left, ht.here, ht.ahead⟩
theorem MsgTame.of {m m' : MsgD} (h : MsgTame m) (h1 : m'.told = m.told) (h2 : m'.sld.r = m.sld.r) (h3 : m'.rcp = m.rcp) : MsgTame m' :=
  ⟨h1 ▸ h.up, h1 ▸ h.left, h1 ▸ h.here, h1 ▸ h.ahead, h2 ▸ h.sroot, h2 ▸ h.sname, h2 ▸ h.sepoch, h3 ▸ h.rroot, h3 ▸ h.rname, h3 ▸ h.repoch, h3 ▸ h.rseq⟩
theorem restF_tame {m m' : MsgD} {s s' : List UInt8} (h : restF true m s = some (m', s')) (hm : MsgTame m) (ht : ToldTame m.told) : MsgTame m' := by
  unfold restF at h
  split at h
  · cases h1 : numF true 4 m.epoch s with
    | none => rw [h1] at h; cases h
    | some p => rw [h1] at h; simp only [Option.some.injEq, Prod.mk.injEq] at h; rw [← h.1]; exact hm.of rfl rfl rfl
  split at h
  · cases h1 : numF true 4 m.epoch s with
    | none => rw [h1] at h; cases h
    | some p =>
    rw [h1] at h; simp only at h
    cases h2 : numF true 4 m.seq p.2 with
    | none => rw [h2] at h; cases h
    | some p2 =>
    rw [h2] at h; simp only at h
    cases h3 : strF true m.last p2.2 with
    | none => rw [h3] at h; cases h
    | some p3 => rw [h3] at h; simp only [Option.some.injEq, Prod.mk.injEq] at h; rw [← h.1]; exact hm.of rfl rfl rfl
  split at h
  · cases h1 : numF true 4 m.seq s with
    | none => rw [h1] at h; cases h
    | some p => rw [h1] at h; simp only [Option.some.injEq, Prod.mk.injEq] at h; rw [← h.1]; exact hm.of rfl rfl rfl
  split at h
  · cases h1 : numF true 4 m.seq s with
    | none => rw [h1] at h; cases h
    | some p =>
    rw [h1] at h; simp only at h
    cases h2 : recF true m.sld.r p.2 with
    | none => rw [h2] at h; cases h
    | some p2 =>
    rw [h2] at h; simp only at h
    cases h3 : strF true m.sld.tag p2.2 with
    | none => rw [h3] at h; cases h
    | some p3 =>
      rw [h3] at h
      simp only [Option.some.injEq, Prod.mk.injEq] at h
      have hr : recTake p.2 = some (p2.1, p2.2) := by simpa [recF] using h2
      have hf := recOk_facts (recTake_back hr).2
      rw [← h.1]
      exact ⟨hm.up, hm.left, hm.here, hm.ahead, by show p2.1.root.size ≤ _; omega, by show p2.1.name.size ≤ _; omega, by show Fits p2.1.epoch; exact ⟨by omega, by omega⟩, hm.rroot, hm.rname, hm.repoch, hm.rseq⟩
  split at h
  · cases h1 : askF true m.askE m.askL s with
    | none => rw [h1] at h; cases h
    | some p => rw [h1] at h; simp only [Option.some.injEq, Prod.mk.injEq] at h; rw [← h.1]; exact hm.of rfl rfl rfl
  split at h
  · cases h1 : toldF true m.told s with
    | none => rw [h1] at h; cases h
    | some p =>
      rw [h1] at h
      have := toldF_tame h1 ht
      simp only [Option.some.injEq, Prod.mk.injEq] at h
      rw [← h.1]
      exact ⟨by have := this.up; show p.1.up.length ≤ _; omega, by have := this.left; show p.1.left.length ≤ _; omega, by have := this.here; show p.1.here.hash.size ≤ _; omega, by have := this.ahead; show p.1.ahead.hash.size ≤ _; omega, hm.sroot, hm.sname, hm.sepoch, hm.rroot, hm.rname, hm.repoch, hm.rseq⟩
  split at h
  · cases h1 : rcpF true m.rcp s with
    | none => rw [h1] at h; cases h
    | some p =>
      rw [h1] at h
      have hr : rcpTake s = some (p.1, p.2) := by simpa [rcpF] using h1
      have hok := (rcpTake_back hr).2
      have hf := recOk_facts (rcpOk_rec hok).1
      simp only [rcpOk, Bool.and_eq_true, decide_eq_true_eq] at hok
      simp only [Option.some.injEq, Prod.mk.injEq] at h
      rw [← h.1]
      exact ⟨hm.up, hm.left, hm.here, hm.ahead, hm.sroot, hm.sname, hm.sepoch, by show p.1.r.root.size ≤ _; omega, by show p.1.r.name.size ≤ _; omega, by show Fits p.1.r.epoch; exact ⟨by omega, by omega⟩, by show Fits p.1.seq; exact ⟨by omega, by omega⟩⟩
  · simp only [Option.some.injEq, Prod.mk.injEq] at h
    rw [← h.1]; exact hm
theorem zeroTame0 : MsgTame MsgD.zero := ⟨by decide, by decide, by decide, by decide, by decide, by decide, by unfold Fits; decide, by decide, by decide, by unfold Fits; decide, by unfold Fits; decide⟩
theorem zeroTame (k : Int) : MsgTame { MsgD.zero with kind := k } := zeroTame0.of rfl rfl rfl
theorem zeroToldT : ToldTame ToldD.zero := ⟨by decide, by decide, by decide, by decide⟩
/-- What is read is of machine size. -/
theorem readF_tame {s s' : List UInt8} {m : MsgD} (h : readF s = some (m, s')) : MsgTame m := by
  unfold readF at h
  cases h1 : numF true 1 0 s with
  | none => rw [h1] at h; cases h
  | some p =>
  obtain ⟨k, s1⟩ := p
  rw [h1] at h; simp only at h
  unfold partsF at h
  have hz := zeroTame k
  have hzt : ToldTame ({ MsgD.zero with kind := k } : MsgD).told := zeroToldT
  cases h2 : nonceF true { MsgD.zero with kind := k } s1 with
  | none => rw [h2] at h; cases h
  | some p =>
  obtain ⟨m1, s2⟩ := p
  rw [h2] at h; simp only at h
  have hm1 : m1.told = ({ MsgD.zero with kind := k } : MsgD).told ∧ m1.sld.r = ({ MsgD.zero with kind := k } : MsgD).sld.r ∧ m1.rcp = ({ MsgD.zero with kind := k } : MsgD).rcp := by
    unfold nonceF at h2
    split at h2
    · simp only [Option.some.injEq, Prod.mk.injEq] at h2; rw [← h2.1]; exact ⟨rfl, rfl, rfl⟩
    · cases h3 : strF true ({ MsgD.zero with kind := k } : MsgD).nonce s1 with
      | none => rw [h3] at h2; cases h2
      | some p => rw [h3] at h2; simp only [Option.some.injEq, Prod.mk.injEq] at h2; rw [← h2.1]; exact ⟨rfl, rfl, rfl⟩
  have t1 := hz.of hm1.1 hm1.2.1 hm1.2.2
  cases h4 : restF true m1 s2 with
  | none => rw [h4] at h; cases h
  | some p =>
  obtain ⟨m2, s3⟩ := p
  rw [h4] at h; simp only at h
  have t2 := restF_tame h4 t1 (by rw [hm1.1]; exact hzt)
  unfold tagF at h
  split at h
  · cases h5 : strF true m2.tag s3 with
    | none => rw [h5] at h; cases h
    | some p => rw [h5] at h; simp only [Option.some.injEq, Prod.mk.injEq] at h; rw [← h.1]; exact t2.of rfl rfl rfl
  · simp only [Option.some.injEq, Prod.mk.injEq] at h; rw [← h.1]; exact t2
end Go.Proofs.Ytkdplgcffdaoaaa
