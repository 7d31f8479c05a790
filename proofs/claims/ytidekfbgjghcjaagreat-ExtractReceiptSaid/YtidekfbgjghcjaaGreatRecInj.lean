/- A record's bytes tell the record; what is said of a record tells it, its place, and what stands ahead. No program in sight. -/
import Derived.Test.YtidekfbgjghcjaaGreatSealS
import Derived.Test.YtidekfbgjghcjaaGreatG9
namespace Go.Proofs.YtidekfbgjghcjaaGreat
set_option linter.unusedSimpArgs false
set_option linter.unusedVariables false
open Go
set_option linter.unusedVariables false

theorem textL_inj {a b s t : List UInt8} (ha : a.length < 4294967296) (hb : b.length < 4294967296) (h : textL a ++ s = textL b ++ t) : a = b ∧ s = t := by
  unfold textL at h
  rw [List.append_assoc, List.append_assoc] at h
  obtain ⟨h1, h2⟩ := List.append_inj h (by rw [beBytes_length, beBytes_length])
  have h3 := beBytes_inj 4 (by simpa using ha) (by simpa using hb) h1
  exact List.append_inj h2 h3
theorem bytes_of_data {a b : ByteArray} (h : a.data.toList = b.data.toList) : a = b := by
  obtain ⟨⟨a⟩⟩ := a
  obtain ⟨⟨b⟩⟩ := b
  simpa using h
theorem recPut_inj {a b : Rec} (ha : recOk a = true) (hb : recOk b = true) (h : recPut a = recPut b) : a = b := by
  have fa := recOk_facts ha
  have fb := recOk_facts hb
  obtain ⟨k, e, t, c, g, u, ro, na⟩ := a
  obtain ⟨k', e', t', c', g', u', ro', na'⟩ := b
  simp only at fa fb
  have h' : (beBytes 1 k.toNat ++ (beBytes 4 e.toNat ++ (beBytes 8 t.toNat ++ (beBytes 4 c.toNat ++ (beBytes 4 g.toNat ++ (beBytes 8 u.toNat ++ (textL ro.data.toList ++ (textL na.data.toList ++ [])))))))) = (beBytes 1 k'.toNat ++ (beBytes 4 e'.toNat ++ (beBytes 8 t'.toNat ++ (beBytes 4 c'.toNat ++ (beBytes 4 g'.toNat ++ (beBytes 8 u'.toNat ++ (textL ro'.data.toList ++ (textL na'.data.toList ++ [])))))))) := by
    have h2 := h
    simp only [recPut, Rec.nums, widthsL, packL] at h2
    simpa using h2
  obtain ⟨h1, h'⟩ := List.append_inj h' (by rw [beBytes_length, beBytes_length])
  obtain ⟨h2, h'⟩ := List.append_inj h' (by rw [beBytes_length, beBytes_length])
  obtain ⟨h3, h'⟩ := List.append_inj h' (by rw [beBytes_length, beBytes_length])
  obtain ⟨h4, h'⟩ := List.append_inj h' (by rw [beBytes_length, beBytes_length])
  obtain ⟨h5, h'⟩ := List.append_inj h' (by rw [beBytes_length, beBytes_length])
  obtain ⟨h6, h'⟩ := List.append_inj h' (by rw [beBytes_length, beBytes_length])
  have er : ro.data.toList.length = ro.size := rfl
  have en : na.data.toList.length = na.size := rfl
  have er' : ro'.data.toList.length = ro'.size := rfl
  have en' : na'.data.toList.length = na'.size := rfl
  obtain ⟨h7, h'⟩ := textL_inj (by omega) (by omega) h'
  obtain ⟨h8, _⟩ := textL_inj (by omega) (by omega) h'
  have q1 := beBytes_inj 1 (by omega) (by omega) h1
  have q2 := beBytes_inj 4 (by omega) (by omega) h2
  have q3 := beBytes_inj 8 (by omega) (by omega) h3
  have q4 := beBytes_inj 4 (by omega) (by omega) h4
  have q5 := beBytes_inj 4 (by omega) (by omega) h5
  have q6 := beBytes_inj 8 (by omega) (by omega) h6
  have q7 := bytes_of_data h7
  have q8 := bytes_of_data h8
  have r1 : k = k' := by omega
  have r2 : e = e' := by omega
  have r3 : t = t' := by omega
  have r4 : c = c' := by omega
  have r5 : g = g' := by omega
  have r6 : u = u' := by omega
  subst q7 q8 r1 r2 r3 r4 r5 r6
  rfl
theorem saidC_inj {a b : List UInt8} {s t : Int} {x y : Rec} (ha : a.length = 32) (hb : b.length = 32) (hs : 0 ≤ s ∧ s ≤ 4294967295) (ht : 0 ≤ t ∧ t ≤ 4294967295) (hx : recOk x = true) (hy : recOk y = true) (h : saidC a s x = saidC b t y) : a = b ∧ s = t ∧ x = y := by
  unfold saidC at h
  rw [List.append_assoc, List.append_assoc] at h
  obtain ⟨h1, h2⟩ := List.append_inj h (by rw [ha, hb])
  obtain ⟨h3, h4⟩ := List.append_inj h2 (by rw [beBytes_length, beBytes_length])
  have := beBytes_inj 4 (by omega) (by omega) h3
  exact ⟨h1, by omega, recPut_inj hx hy h4⟩
end Go.Proofs.YtidekfbgjghcjaaGreat
