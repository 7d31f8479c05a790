/- Walks of the documents' functions on SHA-256 (chapter 02): Begin, Rounds, Text, Pad. -/
import Derived.Test.YtacoibiafpdoaaaRef2
namespace Go.Proofs.Ytacoibiafpdoaaa
open Go Go.RowKit
set_option linter.unusedVariables false

def nums64 (l : List Nat) : List Value := l.map (fun n => .int .i64 ((n : Nat) : Int))
theorem nums64_length (l : List Nat) : (nums64 l).length = l.length := by simp [nums64]
theorem nums64_one (l : List Nat) : ∀ v ∈ nums64 l, v.oneCell' = true := by
  intro v hv
  obtain ⟨_, _, rfl⟩ := List.mem_map.1 hv
  rfl
theorem nums64_at (l : List Nat) (i : Nat) (hi : i < l.length) : (nums64 l)[i]? = some (.int .i64 ((l.getD i 0 : Nat) : Int)) := by
  simp [nums64, hi]

/-- Eight numbers, as the documents hold them. -/
def S8.rcells (s : S8) : List Value := [.int .i64 s.a, .int .i64 s.b, .int .i64 s.c, .int .i64 s.d, .int .i64 s.e, .int .i64 s.f, .int .i64 s.g, .int .i64 s.h]
def S8.rval (s : S8) : Value := .agg s.rcells.toArray
theorem S8.rcells_l (s : S8) : s.rcells = nums64 s.l := rfl
theorem S8.rcells_one (s : S8) : ∀ v ∈ s.rcells, v.oneCell' = true := nums64_one s.l

def zeros64 (n : Nat) : List Value := List.replicate n (.int .i64 0)
theorem rzero64 (w : World) : Sem.run Try.prog (zeroValue 156) w = .ok (.agg (zeros64 64).toArray) w := by kernel_rfl
theorem rzero8 (w : World) : Sem.run Try.prog (zeroValue 154) w = .ok (.agg S8.zero.rcells.toArray) w := by kernel_rfl
theorem rsize64 : (Try.prog.info? 156).map (·.size) = some 64 := by kernel_rfl
theorem rsize8 (s : S8) : (Try.prog.info? 154).map (·.size) = some s.rcells.length := by kernel_rfl

theorem rbegin_walk (w : World) :
    Calls Try.prog 138 #[] w fun e w' => e = .returned S8.first.rval ∧ Below w.heap.size w w' := by
  go_enter Try.func138, Try.ntmps138
  go_wp2
  exact bodyPost_ret (v := S8.first.rval) (by simp [results, Try.results138, go_sem]; rfl) rfl ⟨rfl, ((Below.refl _ _).alloc (Nat.le_refl _) _)⟩

set_option maxRecDepth 100000 in
set_option maxHeartbeats 400000 in
theorem rrounds_walk (w : World) :
    Calls Try.prog 139 #[] w fun e w' => e = .returned (.agg (nums64 roundK).toArray) ∧ Below w.heap.size w w' := by
  have hi : Hid ((Try.prog.info? 156).map (·.size) = some (nums64 roundK).length) := by show _ = _; kernel_rfl
  have hz : Hid (Blk (w.alloc (.cells (List.replicate 64 (Value.int .i64 0)).toArray 156)) w.heap.size (List.replicate 64 (.int .i64 0)) 156) := Blk.new _ _ _
  have hb : Hid (Below w.heap.size w (w.alloc (.cells (List.replicate 64 (Value.int .i64 0)).toArray 156))) := (Below.refl _ _).alloc (Nat.le_refl _) _
  have hl : Hid ((nums64 roundK).length = (List.replicate 64 (Value.int .i64 0)).length) := by show _ = _; rfl
  go_enter Try.func139, Try.ntmps139
  go_wp2_with (first
    | ((with_reducible refine wpList_build_eq 156 ?parts (nums64 roundK) ?hgd ?ho ?hf ?_); (case hgd => rfl); (case ho => rfl); (case hf => kernel_rfl))
    | ((with_reducible refine wpList_store_blk 156 (.tmp 0) (.tmp 1) w.heap.size (List.replicate 64 (Value.int .i64 0)) (nums64 roundK) 156 ?hz ?hl hi.out (nums64_one _) ?hgd ?ho ?hx ?hy ?_); (case hgd => rfl); (case ho => rfl); (case hx => rfl); (case hz => exact hz.out); (case hl => exact hl.out); (case hy => rfl))
    | ((with_reducible refine bodyPost_ret (v := .agg (nums64 roundK).toArray) ?hr ?hd ?hR)
       (case hd => rfl)
       (case hR => exact ⟨rfl, Below.setCells (Nat.le_refl _) _ _ hb.out⟩)
       (case hr => exact results_cell_row rfl _ _ w.heap.size _ _ _ _ rfl (hz.out.setAll (nums64 roundK) hl.out) Try.underlying156 rfl (by rw [List.size_toArray]; exact hi.out))))

theorem S8.l_lt {s : S8} (h : s.ok) (k : Nat) : s.l.getD k 0 < 4294967296 := by
  obtain ⟨h1, h2, h3, h4, h5, h6, h7, h8⟩ := h
  match k with
  | 0 => exact h1
  | 1 => exact h2
  | 2 => exact h3
  | 3 => exact h4
  | 4 => exact h5
  | 5 => exact h6
  | 6 => exact h7
  | 7 => exact h8
  | k + 8 => simp [S8.l]

set_option maxRecDepth 100000 in
set_option maxHeartbeats 1000000 in
theorem rtext_walk (s : S8) (hs : s.ok) (w : World) :
    Calls Try.prog 141 #[s.rval] w fun e w' => ∃ r, e = .returned (.string r) ∧ Txt r s.text ∧ Below w.heap.size w w' := by
  go_enter Try.func141, Try.ntmps141
  go_wp2_with ((with_reducible refine wpList_box_new 154 (.tmp 0) s.rcells (some 1) ?hgd ?ho ?hd ?hx ?_); (case hgd => rfl); (case ho => rfl); (case hd => rfl); (case hx => rfl); (intro b w1 l1 B1 e1 z1))
  have hbel0 := e1.mono l1
  go_loopw [3, 4] (fun o i wr => ∃ (k : Nat) (r : ByteArray), k ≤ 8 ∧ i = .int .i64 k ∧ o = .string r ∧ Txt r (textTo s.l k) ∧ Blk wr b s.rcells 154 ∧ Below w.heap.size w wr) (fun o i _ => 8 - (intOf i).toNat)
  case atStart => exact ⟨0, ⟨#[]⟩, by omega, rfl, rfl, Txt.mk [], B1, hbel0⟩
  case round =>
    clear B1 hbel0 e1 z1
    obtain ⟨k, r, hk, rfl, rfl, tr, hB, hbel⟩ := hrel
    have hr : r.size ≤ 32 := by rw [tr.size, textTo_length _ _ (by show k ≤ 8; omega)]; omega
    by_cases hlt : k < 8
    · have hlt' : (k : Int) < 8 := by omega
      obtain ⟨x, Hx⟩ : ∃ a, Hid (a = s.l.getD k 0) := ⟨_, rfl⟩
      have hx : x < 4294967296 := by rw [Hx.out]; exact S8.l_lt hs k
      have hc : wr.cell? ⟨b, k, none⟩ = some (.int .i64 x) := by rw [Hx.out]; exact hB.cell (by rw [S8.rcells_l]; exact nums64_at _ _ (by exact hlt))
      have HB := Lib.hid hB; clear hB
      go_wp2_with fail
      refine (rput_walk x 4 _ (by omega)).mono ?_
      rintro e w2 ⟨he, hb2⟩
      obtain ⟨q, rfl, tq⟩ := he.yes ⟨by omega, by omega, by omega, by simpa using hx⟩
      clear he
      have hq : q.size ≤ 4 := by rw [tq.size, beBytes_length]; simp
      go_wp2_with fail
      go_roundw
      case rel =>
        have y := hbel.size
        have z := HB.out.lt
        refine ⟨k + 1, _, by omega, by go_num, rfl, ?_, HB.out.below hb2 z, hbel.trans (hb2.mono y)⟩
        refine (tr.append tq).cast ?_
        rw [textTo_succ _ _ hlt, ← Hx.out]; rfl
      case measure => simp [intOf]; omega
    · obtain rfl : k = 8 := by omega
      have HB := Lib.hid hB; clear hB
      go_wp2_with fail
      go_ret
      exact ⟨r, rfl, tr.cast (textTo_all s), hbel⟩
end Go.Proofs.Ytacoibiafpdoaaa
