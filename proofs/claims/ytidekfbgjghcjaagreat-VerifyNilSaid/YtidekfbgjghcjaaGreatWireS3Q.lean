/- Walk of the documents' Same of two messages (chapter 27). -/
import Derived.Test.YtidekfbgjghcjaaGreatG15
namespace Go.Proofs.YtidekfbgjghcjaaGreat
set_option linter.unusedSimpArgs false
set_option linter.unusedVariables false
open Go Go.RowKit
set_option linter.unusedVariables false

theorem bytesEqB (a b : ByteArray) : (a.toList == b.toList) = decide (a = b) := by
  rw [Bool.eq_iff_iff]
  simp only [beq_iff_eq, decide_eq_true_eq]
  constructor
  · intro h
    rw [Lib.toList_data, Lib.toList_data] at h
    have h1 := (Txt.self a).of
    have h2 := (Txt.self b).of
    rw [h1, h2, h]
  · intro h; rw [h]
def sameB (m n : MsgD) : Bool := decide (m.kind = n.kind) && decide (m.epoch = n.epoch) && decide (m.seq = n.seq) && decide (m.nonce = n.nonce) && decide (m.tag = n.tag) && decide (m.last = n.last) && decide (m.askE = n.askE ∧ m.askL = n.askL) && decide (m.sld = n.sld) && decide (m.rcp = n.rcp) && decide (m.told.askE = n.told.askE ∧ m.told.askL = n.told.askL) && decide (m.told.gone = n.told.gone) && decide (m.told.slot = n.told.slot) && decide (m.told.cipher = n.told.cipher) && proofEq m.told n.told
theorem sameB_eq (m n : MsgD) : sameB m n = decide (m = n) := by
  obtain ⟨a1, a2, a3, a4, a5, a6, a7, a8, a9, ⟨t1, t2, t3, t4, t5, t6, t7, t8, t9, t10, t11⟩, a11⟩ := m
  obtain ⟨b1, b2, b3, b4, b5, b6, b7, b8, b9, ⟨s1, s2, s3, s4, s5, s6, s7, s8, s9, s10, s11⟩, b11⟩ := n
  rw [Bool.eq_iff_iff]
  simp only [sameB, proofEq, Bool.and_eq_true, decide_eq_true_eq, MsgD.mk.injEq, ToldD.mk.injEq]
  constructor
  · rintro ⟨⟨⟨⟨⟨⟨⟨⟨⟨⟨⟨⟨⟨h1, h2⟩, h3⟩, h4⟩, h5⟩, h6⟩, h7, h8⟩, h9⟩, h10⟩, h11, h12⟩, h13⟩, h14⟩, h15⟩, ⟨⟨⟨⟨h16, h17⟩, h18⟩, h19⟩, h20⟩, h21⟩
    exact ⟨h1, h2, h3, h4, h5, h6, h7, h8, h9, ⟨h11, h12, h13, h16, h17, h18, h19, h20, h21, h14, h15⟩, h10⟩
  · rintro ⟨h1, h2, h3, h4, h5, h6, h7, h8, h9, ⟨h11, h12, h13, h16, h17, h18, h19, h20, h21, h14, h15⟩, h10⟩
    exact ⟨⟨⟨⟨⟨⟨⟨⟨⟨⟨⟨⟨⟨h1, h2⟩, h3⟩, h4⟩, h5⟩, h6⟩, h7, h8⟩, h9⟩, h10⟩, h11, h12⟩, h13⟩, h14⟩, h15⟩, ⟨⟨⟨⟨h16, h17⟩, h18⟩, h19⟩, h20⟩, h21⟩
end Go.Proofs.YtidekfbgjghcjaaGreat
