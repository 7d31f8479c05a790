/- Walks of package sha: a hash, what is put to it, its sum. -/
import Derived.Test.YtacoibiafpdoaaaWSha5
import Derived.Deep.RegionWith
import Derived.Deep.RegionHeld3
import Derived.Deep.RegionLaw
namespace Go.Proofs.Ytacoibiafpdoaaa
open Go Go.RowKit
set_option linter.unusedVariables false

/-- The cells of a hash. -/
def hcells (st : S8) (r : ByteArray) (n : Nat) : List Value := .bool true :: (st.cells ++ [.string r, .int .i64 (n : Int)])
theorem hcells_size (st : S8) (r : ByteArray) (n : Nat) : (Try.prog.info? 147).map (·.size) = some (hcells st r n).length := by kernel_rfl

theorem hbuild (a : Act) : Try.prog.built 147 [(0, Value.bool true), (1, S8.first.val)] = some (hcells S8.first ⟨#[]⟩ 0).toArray := by kernel_rfl

set_option maxRecDepth 100000 in
set_option maxHeartbeats 400000 in
theorem new_walk (w : World) :
    Calls Try.prog 100 #[] w fun e w' => ∃ n, e = .returned (.pointer (some ⟨n, 0, none⟩)) ∧ w.heap.size ≤ n ∧ Blk w' n (hcells S8.first ⟨#[]⟩ 0) 147 ∧ Below w.heap.size w w' ∧ n < w'.heap.size := by
  go_enter Try.func100, Try.ntmps100
  go_wp2_with fail
  refine (first_walk _).mono ?_
  rintro e w1 ⟨rfl, hb1⟩
  go_wp2_with (first
    | ((with_reducible refine wpList_build_eq 147 ?parts (hcells S8.first ⟨#[]⟩ 0) ?hgd ?ho ?hf ?_); (case hgd => rfl); (case ho => rfl); (case hf => kernel_rfl))
    | ((with_reducible refine wpList_box_new 147 (.tmp 2) (hcells S8.first ⟨#[]⟩ 0) (some 3) ?hgd ?ho ?hd ?hx ?_); (case hgd => rfl); (case ho => rfl); (case hd => rfl); (case hx => rfl); (intro n w2 l2 B2 e2 z2)))
  go_ret
  have := hb1.size
  exact ⟨n, rfl, by omega, B2, hb1.trans (e2.mono (by omega)), z2⟩

theorem there_walk (b : Nat) (st : S8) (r : ByteArray) (n : Nat) (w : World) (hb : Blk w b (hcells st r n) 147) :
    Calls Try.prog 128 #[.pointer (some ⟨b, 0, none⟩)] w fun e w' => e = .returned (.bool true) ∧ w = w' := by
  have c0 : w.cell? ⟨b, 0, none⟩ = some (.bool true) := hb.cell rfl
  clear hb
  go_enter Try.func128, Try.ntmps128
  go_wp2
  go_ret
  exact ⟨rfl, rfl⟩
end Go.Proofs.Ytacoibiafpdoaaa
namespace Go.Proofs.Ytacoibiafpdoaaa
open Go Go.RowKit

/-- The state behind the whole blocks of what was put, and the rest. -/
def hst (m : List UInt8) : S8 := blocks (m.length / 64) S8.first m
def hrest (m : List UInt8) : List UInt8 := m.drop (64 * (m.length / 64))

def HashAt (w : World) (b : Nat) (m : List UInt8) : Prop := ∃ r, Txt r (hrest m) ∧ Blk w b (hcells (hst m) r m.length) 147

/-- How many bytes a text has. -/
def txtLen : Value → Nat | .string s => s.size | _ => 0

theorem blocks_succ (k : Nat) (s : S8) (l : List UInt8) : blocks (k + 1) s l = stp (blocks k s l) ((l.drop (64 * k)).take 64) := by
  induction k generalizing s l with
  | zero => simp [blocks]
  | succ k ih =>
    rw [blocks, ih, List.drop_drop, show 64 + 64 * k = 64 * (k + 1) by omega]
    rfl

theorem hst_step (m x : List UInt8) (k : Nat) (hk : 64 * k ≤ (hrest m ++ x).length) (hlt : (hrest m ++ x).length - 64 * k < 64) :
    hst (m ++ x) = blocks k (hst m) (hrest m ++ x) ∧ hrest (m ++ x) = (hrest m ++ x).drop (64 * k) := by
  have hl : (hrest m ++ x).length = m.length - 64 * (m.length / 64) + x.length := by simp [hrest]
  have hq : (m ++ x).length / 64 = m.length / 64 + k := by rw [List.length_append]; omega
  have hM : m ++ x = m.take (64 * (m.length / 64)) ++ (hrest m ++ x) := by rw [← List.append_assoc, hrest, List.take_append_drop]
  have ht : (m.take (64 * (m.length / 64))).length = 64 * (m.length / 64) := by simp; omega
  constructor
  · unfold hst
    rw [hq]
    conv => lhs; rw [hM]
    rw [blocks_append _ _ _ _ _ ht, blocks_take]
  · conv => lhs; unfold hrest
    rw [hq]
    conv => lhs; rw [hM]
    rw [List.drop_append, ht, List.drop_eq_nil_of_le (by rw [ht]; omega), List.nil_append]
    congr 1; omega

theorem hst_ok (m : List UInt8) : (hst m).ok := blocks_ok _ S8.first_ok _

theorem hash_cells {w : World} {b : Nat} {st : S8} {r : ByteArray} {n : Nat} (h : Blk w b (hcells st r n) 147) :
    w.cell? ⟨b, 1, none⟩ = some (.int .u32 st.a) ∧ w.cell? ⟨b, 2, none⟩ = some (.int .u32 st.b) ∧ w.cell? ⟨b, 3, none⟩ = some (.int .u32 st.c) ∧ w.cell? ⟨b, 4, none⟩ = some (.int .u32 st.d) ∧
    w.cell? ⟨b, 5, none⟩ = some (.int .u32 st.e) ∧ w.cell? ⟨b, 6, none⟩ = some (.int .u32 st.f) ∧ w.cell? ⟨b, 7, none⟩ = some (.int .u32 st.g) ∧ w.cell? ⟨b, 8, none⟩ = some (.int .u32 st.h) ∧
    w.frozen? ⟨b, 1, none⟩ = false ∧ w.frozen? ⟨b, 2, none⟩ = false ∧ w.frozen? ⟨b, 3, none⟩ = false ∧ w.frozen? ⟨b, 4, none⟩ = false ∧
    w.frozen? ⟨b, 5, none⟩ = false ∧ w.frozen? ⟨b, 6, none⟩ = false ∧ w.frozen? ⟨b, 7, none⟩ = false ∧ w.frozen? ⟨b, 8, none⟩ = false :=
  ⟨h.cell rfl, h.cell rfl, h.cell rfl, h.cell rfl, h.cell rfl, h.cell rfl, h.cell rfl, h.cell rfl, h.free _, h.free _, h.free _, h.free _, h.free _, h.free _, h.free _, h.free _⟩

theorem turned_walk' (s : S8) (hs : s.ok) (blk : ByteArray) (w : World) (h : blk.size = 64) :
    Calls Try.prog 129 #[.agg #[.int .u32 s.a, .int .u32 s.b, .int .u32 s.c, .int .u32 s.d, .int .u32 s.e, .int .u32 s.f, .int .u32 s.g, .int .u32 s.h], .string blk] w fun e w' =>
      ∃ x : S8, e = .returned (.agg #[.int .u32 x.a, .int .u32 x.b, .int .u32 x.c, .int .u32 x.d, .int .u32 x.e, .int .u32 x.f, .int .u32 x.g, .int .u32 x.h]) ∧ Hid (x = stp s blk.data.toList) ∧ Below w.heap.size w w' :=
  (turned_walk s hs blk w h).mono fun _ _ ⟨a, b⟩ => ⟨_, a, rfl, b⟩

set_option maxRecDepth 100000 in
set_option maxHeartbeats 1000000 in
theorem put_walk (b : Nat) (m : List UInt8) (s : ByteArray) (w : World) (hb : HashAt w b m) (hn : m.length + s.size ≤ 1073741824) :
    Calls Try.prog 101 #[.pointer (some ⟨b, 0, none⟩), .string s] w fun e w' => e = .returned (.int .i64 0) ∧ HashAt w' b (m ++ s.data.toList) ∧ Kept b w w' := by
  obtain ⟨r, tr, hblk⟩ := hb
  have hr : r.size ≤ 63 := by rw [tr.size, hrest, List.length_drop]; omega
  have hs : s.size ≤ 1073741824 := by omega
  obtain ⟨n, Hn⟩ : ∃ n, Hid (n = m.length) := ⟨_, rfl⟩
  rw [← Hn.out] at hblk hn
  have c9 : w.cell? ⟨b, 9, none⟩ = some (.string r) := hblk.cell rfl
  have c10 : w.cell? ⟨b, 10, none⟩ = some (.int .i64 n) := hblk.cell rfl
  have f10 := hblk.free 10
  have HB := Lib.hid hblk; clear hblk
  go_enter Try.func101, Try.ntmps101
  go_wp2_with fail
  refine (there_walk b (hst m) r n _ HB.out).mono ?_
  rintro e w1 ⟨rfl, rfl⟩
  go_wp2_with fail
  obtain ⟨L, HL⟩ : ∃ L, Hid (L = hrest m ++ s.data.toList) := ⟨_, rfl⟩
  have hLl : Hid (L.length = r.size + s.size) := by show _ = _; rw [HL.out, List.length_append, tr.size]; rfl
  have e14 : Hid (((n : Nat) : Int) + (s.size : Int) = ((n + s.size : Nat) : Int)) := by show _ = _; omega
  rw [e14.out]
  obtain ⟨N, HN⟩ : ∃ N, Hid (N = n + s.size) := ⟨_, rfl⟩
  rw [← HN.out]
  have HB2 : Hid (Blk (w.setCell ⟨b, 10, none⟩ (.int .i64 ((N : Nat) : Int))) b (hcells (hst m) r N) 147) := (HB.out.set 10 _).ext rfl
  have HK2 : Hid (Kept b w (w.setCell ⟨b, 10, none⟩ (.int .i64 ((N : Nat) : Int)))) := (Kept.refl b w).setCell 10 _
  have hbs : b < w.heap.size := HB.out.lt
  have tL : Txt (r ++ s) L := by rw [HL.out]; exact tr.append (Txt.self s)
  clear HB c9 c10 f10 e14
  go_loopw [1] (fun v wr => ∃ k t, v = .string t ∧ 64 * k ≤ L.length ∧ Txt t (L.drop (64 * k)) ∧ Blk wr b (hcells (blocks k (hst m) L) r N) 147 ∧ Kept b w wr) (fun v _ => txtLen v)
  case atStart => exact ⟨0, r ++ s, rfl, by omega, tL.cast (by simp), HB2.out, HK2.out⟩
  case round =>
    clear HB2 HK2
    obtain ⟨k, t, rfl, hk, tt, hblk, hkep⟩ := hrel
    have ht : t.size = L.length - 64 * k := by rw [tt.size, List.length_drop]
    have hok : (blocks k (hst m) L).ok := blocks_ok k (hst_ok m) L
    obtain ⟨st, Hst⟩ : ∃ st, Hid (st = blocks k (hst m) L) := ⟨_, rfl⟩
    rw [← Hst.out] at hblk hok
    have hts : t.size ≤ 1073741900 := by have := hLl.out; omega
    have Ht := Lib.hid ht; clear ht
    have hlt' : b < wr.heap.size := hblk.lt
    by_cases hge : 64 ≤ t.size
    · have hge' : (64 : Int) ≤ (t.size : Int) := by omega
      have hsz : (t.extract 0 64).size = 64 := by simp; omega
      have d1 : wr.cell? ⟨b, 1, none⟩ = some (.int .u32 st.a) := hblk.cell rfl
      have d2 : wr.cell? ⟨b, 2, none⟩ = some (.int .u32 st.b) := hblk.cell rfl
      have d3 : wr.cell? ⟨b, 3, none⟩ = some (.int .u32 st.c) := hblk.cell rfl
      have d4 : wr.cell? ⟨b, 4, none⟩ = some (.int .u32 st.d) := hblk.cell rfl
      have d5 : wr.cell? ⟨b, 5, none⟩ = some (.int .u32 st.e) := hblk.cell rfl
      have d6 : wr.cell? ⟨b, 6, none⟩ = some (.int .u32 st.f) := hblk.cell rfl
      have d7 : wr.cell? ⟨b, 7, none⟩ = some (.int .u32 st.g) := hblk.cell rfl
      have d8 : wr.cell? ⟨b, 8, none⟩ = some (.int .u32 st.h) := hblk.cell rfl
      have HS := Lib.hid hsz; clear hsz
      have HB := Lib.hid hblk; clear hblk
      go_wp2_with fail
      go_region_with ((go_at_call 129; refine (turned_walk' st hok _ _ HS.out).mono ?_; rintro e w2 ⟨x, rfl, Hx, hb2⟩; have B2 := Lib.hid (HB.out.drew.below hb2 hlt'); obtain ⟨q1, q2, q3, q4, q5, q6, q7, q8, g1, g2, g3, g4, g5, g6, g7, g8⟩ := hash_cells B2.out))
      clear q1 q2 q3 q4 q5 q6 q7 q8 g1 g2 g3 g4 g5 g6 g7 g8 d1 d2 d3 d4 d5 d6 d7 d8
      go_wp2_with fail
      go_roundw
      case rel =>
        refine ⟨k + 1, t.extract 64 t.size, rfl, ?_, ?_, ?_, ?_⟩
        · have := Ht.out; omega
        · refine (tt.extract 64 t.size).cast ?_
          rw [List.take_of_length_le (by rw [← tt.size]; exact Nat.le_refl _), List.drop_drop, show 64 * k + 64 = 64 * (k + 1) by omega]
        · refine ((((((((B2.out.set _ _).set _ _).set _ _).set _ _).set _ _).set _ _).set _ _).set _ _).ext ?_
          have ex : x = blocks (k + 1) (hst m) L := by
            rw [Hx.out, blocks_succ, ← Hst.out]
            congr 1
            rw [(tt.extract 0 64), List.drop_zero]
          rw [← ex]
          rfl
        · exact (((((((((hkep.drew.below' hb2 (Nat.le_refl _)).setCell _ _).setCell _ _).setCell _ _).setCell _ _).setCell _ _).setCell _ _).setCell _ _).setCell _ _)
      case measure =>
        simp [txtLen]
        omega
    · have HB := Lib.hid hblk; clear hblk
      go_wp2_with fail
      refine (clone_walk t _ (by omega)).mono ?_
      rintro e w3 ⟨rfl, hb3⟩
      have B3 := HB.out.below hb3 hlt'
      have c9 : w3.cell? ⟨b, 9, none⟩ = some (.string r) := B3.cell rfl
      have f9 := B3.free 9
      have HB3 := Lib.hid B3; clear B3
      go_wp2_with fail
      go_ret
      have hfin := hst_step m s.data.toList k (by rw [← HL.out]; exact hk) (by rw [← HL.out]; have := Ht.out; omega)
      rw [← HL.out] at hfin
      refine ⟨rfl, ⟨t, tt.cast hfin.2.symm, ?_⟩, (hkep.below' hb3 (Nat.le_refl _)).setCell _ _⟩
      refine (HB3.out.set 9 _).ext ?_
      rw [hfin.1, ← Hst.out, List.length_append, ← Hn.out]
      rw [show n + s.data.toList.length = N by rw [HN.out]; rfl]
      rfl
end Go.Proofs.Ytacoibiafpdoaaa
