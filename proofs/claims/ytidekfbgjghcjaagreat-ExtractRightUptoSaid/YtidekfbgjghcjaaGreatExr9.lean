/- What a reading's bulk bounds: the length of a row of heads, and the sizes of a finding's texts (chapter 32). -/
import Derived.Test.YtidekfbgjghcjaaGreatG33
import Derived.Test.YtidekfbgjghcjaaGreatFacts
namespace Go.Proofs.YtidekfbgjghcjaaGreat
set_option linter.unusedSimpArgs false
set_option linter.unusedVariables false
open Go Go.RowKit Go.ChangeShapes Go.WideShapes Go.Deep
section
variable {H : Type}
theorem bulk_pos (d : DataW H) : 1 ≤ Rows.uptoBulk d := by
  cases d with
  | lit l => cases l <;> simp [Rows.uptoBulk]
  | _ => simp [Rows.uptoBulk]
theorem bulk_len : ∀ l : List (DataW H), l.length ≤ Rows.uptoBulkAll l
  | [] => by simp
  | d :: r => by have := bulk_pos d; have := bulk_len r; simp [Rows.uptoBulkAll]; omega
theorem bulk_at : ∀ {l : List (DataW H)} {d : DataW H}, d ∈ l → Rows.uptoBulk d ≤ Rows.uptoBulkAll l
  | x :: r, d, h => by
    rcases List.mem_cons.1 h with rfl | h
    · simp [Rows.uptoBulkAll]
    · have := bulk_at h; simp [Rows.uptoBulkAll]; omega
variable {enc : TypeId × Value → H} {w : World} {base : Nat} {spare : Nat → Bool} {held : Bool}
set_option maxRecDepth 100000 in
theorem hon_bulk {h : HonD} {d : DataW H} {ps : List MemPlace} (hrow : HdRow w h.hv h.hl) (ht : DataW.Trod enc Tryz.prog w base spare held 56 h.v d ps) : h.hl.length ≤ Rows.uptoBulk d := by
  obtain ⟨fuel, hf⟩ := ht
  have hf1 : DataW.trod enc Tryz.prog w base spare held fuel 56 [h.sv, h.cv, h.hv] = some (d, ps) := hf
  obtain ⟨xs, n, _, hx, hl, hlen, hg⟩ := DataW.trod_struct Tryz.underlying56 hf1
  have kk : Tryz.prog.cellsOf 54 = 1 := by kernel_rfl
  match xs, hlen with
  | [y0, y1, y2], _ =>
    have g2 : DataW.trod enc Tryz.prog w base spare held n 54 (List.take (Tryz.prog.cellsOf 54) (List.drop 2 [h.sv, h.cv, h.hv])) = some y2 := hg 2 _ rfl
    rw [kk] at g2
    have g3 : DataW.trod enc Tryz.prog w base spare held n 54 [h.hv] = some y2 := g2
    have hd : d = .agg [y0.1, y1.1, y2.1] := congrArg Prod.fst hx
    have hy : Rows.uptoBulk y2.1 ≤ Rows.uptoBulk d := by rw [hd]; simp [Rows.uptoBulk, Rows.uptoBulkAll]; omega
    rcases DataW.trod_slice Tryz.underlying54 g3 with ⟨hcs, _⟩ | ⟨a, len, cap, elems, rest, n', _, hcs, hz, _, _, _, he, _⟩
    · rcases hrow with ⟨h0, _⟩ | ⟨g, o, c, hv, _⟩
      · rw [h0]; exact Nat.zero_le _
      · rw [hv] at hcs; cases hcs
    · have hln : h.hl.length = len := by
        rcases hrow with ⟨h0, p, c, hv⟩ | ⟨g, o, c, hv, _⟩
        · rw [hv] at hcs; rw [h0]; injection hcs with h1; injection h1
        · rw [hv] at hcs; injection hcs with h1; injection h1
      rw [hln, ← he]
      refine Nat.le_trans ?_ hy
      rw [hz]
      have := bulk_len (elems.map (·.1))
      rw [List.length_map] at this
      simp only [Rows.uptoBulk]
      omega
set_option maxRecDepth 100000 in
theorem fnd_bulk {f : Fnd} {d : DataW H} {ps : List MemPlace} (ht : DataW.Trod enc Tryz.prog w base spare held 58 f.v d ps) :
    f.a.size ≤ Rows.uptoBulk d ∧ f.b.size ≤ Rows.uptoBulk d ∧ f.msg.size ≤ Rows.uptoBulk d ∧ f.tag.size ≤ Rows.uptoBulk d := by
  obtain ⟨fuel, hf⟩ := ht
  have hf1 : DataW.trod enc Tryz.prog w base spare held fuel 58 f.cells = some (d, ps) := hf
  obtain ⟨xs, n, _, hx, hl, hlen, hg⟩ := DataW.trod_struct Tryz.underlying58 hf1
  have kk : Tryz.prog.cellsOf 9 = 1 := by kernel_rfl
  match xs, hlen with
  | [y0, y1, y2, y3, y4, y5], _ =>
    have g1 : DataW.trod enc Tryz.prog w base spare held n 9 (List.take (Tryz.prog.cellsOf 9) (List.drop 1 f.cells)) = some y1 := hg 1 _ rfl
    have g2 : DataW.trod enc Tryz.prog w base spare held n 9 (List.take (Tryz.prog.cellsOf 9) (List.drop 2 f.cells)) = some y2 := hg 2 _ rfl
    have g4 : DataW.trod enc Tryz.prog w base spare held n 9 (List.take (Tryz.prog.cellsOf 9) (List.drop 4 f.cells)) = some y4 := hg 4 _ rfl
    have g5 : DataW.trod enc Tryz.prog w base spare held n 9 (List.take (Tryz.prog.cellsOf 9) (List.drop 5 f.cells)) = some y5 := hg 5 _ rfl
    rw [kk] at g1 g2 g4 g5
    obtain ⟨s1, e1, x1, _⟩ := DataW.trod_string Tryz.underlying9 g1
    obtain ⟨s2, e2, x2, _⟩ := DataW.trod_string Tryz.underlying9 g2
    obtain ⟨s4, e4, x4, _⟩ := DataW.trod_string Tryz.underlying9 g4
    obtain ⟨s5, e5, x5, _⟩ := DataW.trod_string Tryz.underlying9 g5
    have h1 : f.a = s1 := by have e : [Value.string f.a] = [Value.string s1] := e1; injection e with e _; injection e
    have h2 : f.b = s2 := by have e : [Value.string f.b] = [Value.string s2] := e2; injection e with e _; injection e
    have h4 : f.msg = s4 := by have e : [Value.string f.msg] = [Value.string s4] := e4; injection e with e _; injection e
    have h5 : f.tag = s5 := by have e : [Value.string f.tag] = [Value.string s5] := e5; injection e with e _; injection e
    have hd : d = .agg [y0.1, y1.1, y2.1, y3.1, y4.1, y5.1] := congrArg Prod.fst hx
    have z : ∀ s : ByteArray, s.data.toList.length = s.size := fun s => rfl
    rw [hd, x1, x2, x4, x5, h1, h2, h4, h5, ← z s1, ← z s2, ← z s4, ← z s5]
    simp only [Rows.uptoBulk, Rows.uptoBulkAll]
    omega
end
end Go.Proofs.YtidekfbgjghcjaaGreat
