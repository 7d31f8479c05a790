/- Walks of package sha: the text of a state, what is padded, a new hash. -/
import Derived.Test.YtacoibiafpdoaaaWSha4
import Derived.Test.YtacoibiafpdoaaaWOctet
import Derived.Test.YtacoibiafpdoaaaLib
namespace Go.Proofs.Ytacoibiafpdoaaa
open Go Go.RowKit
set_option linter.unusedVariables false

theorem padL_eq (n : Nat) : padL n = [128] ++ List.replicate (63 - (n + 8) % 64) 0 ++ beBytes 8 (8 * n) := by simp [padL]

set_option maxHeartbeats 400000 in
theorem pad_walk (n : Nat) (w : World) (hn : n ≤ 1073741824) :
    Calls Try.prog 131 #[.int .i64 n] w fun e w' => ∃ r, e = .returned (.tuple #[.string r, .int .i64 0]) ∧ Txt r (padL n) ∧ Below w.heap.size w w' := by
  have e1 : (n : Int) ≤ 1073741824 := by omega
  obtain ⟨m, Hm⟩ : ∃ m, Hid (m = 63 - (n + 8) % 64) := ⟨_, rfl⟩
  have em : (63 : Int) - ((n : Int) + 8) % 64 = m := by have := Hm.out; omega
  have hm : m ≤ 63 := by have := Hm.out; omega
  obtain ⟨q, Hq⟩ : ∃ q, Hid (q = 8 * n) := ⟨_, rfl⟩
  have e8 : (8 : Int) * (n : Int) = (q : Int) := by have := Hq.out; omega
  have hq : q ≤ 8589934592 := by have := Hq.out; omega
  go_enter Try.func131, Try.ntmps131
  go_wp2_with fail
  refine (oput q 8 _ (by omega) (by omega) (by omega) (by omega)).mono ?_
  rintro e w1 ⟨r1, rfl, t1, hb1⟩
  go_wp2_with fail
  refine (repeat0 m _ (by omega)).mono ?_
  rintro e w2 ⟨r2, rfl, t2, hb2⟩
  have s1 : r1.size ≤ 8 := by rw [t1.size, beBytes_length]; omega
  have s2 : r2.size ≤ 63 := by rw [t2.size, List.length_replicate]; omega
  go_wp2_with fail
  go_ret2
  refine ⟨_, rfl, ?_, hb1.trans (hb2.mono hb1.size)⟩
  rw [padL_eq, ← Hm.out, ← Hq.out]
  exact ((Txt.mk [128]).append t2).append t1

/-- The bytes of the first k numbers. -/
def textTo (l : List Nat) (k : Nat) : List UInt8 := (l.take k).flatMap (beBytes 4)
theorem textTo_length (l : List Nat) (k : Nat) (h : k ≤ l.length) : (textTo l k).length = 4 * k := by
  induction k with
  | zero => simp [textTo]
  | succ k ih =>
    have := ih (by omega)
    unfold textTo at this ⊢
    rw [List.take_succ_eq_append_getElem (by omega), List.flatMap_append, List.length_append, this]
    simp [beBytes_length]; omega
theorem textTo_all (s : S8) : textTo s.l 8 = s.text := by simp [textTo, S8.l, S8.text]
theorem textTo_succ (l : List Nat) (k : Nat) (h : k < l.length) : textTo l (k + 1) = textTo l k ++ beBytes 4 (l.getD k 0) := by
  unfold textTo
  rw [List.take_succ_eq_append_getElem h, List.flatMap_append]
  simp [h]

theorem set4 (L R : List UInt8) (n x0 x1 x2 x3 : Nat) (k : Nat) (hL : L.length = k) :
    ((((L ++ (0 :: 0 :: 0 :: 0 :: R)).set k (UInt8.ofNat x0)).set (k + 1) (UInt8.ofNat x1)).set (k + 2) (UInt8.ofNat x2)).set (k + 3) (UInt8.ofNat x3) =
    L ++ (UInt8.ofNat x0 :: UInt8.ofNat x1 :: UInt8.ofNat x2 :: UInt8.ofNat x3 :: R) := by
  subst hL
  rw [List.set_append_right _ _ (by omega), List.set_append_right _ _ (by simp), List.set_append_right _ _ (by simp), List.set_append_right _ _ (by simp)]
  simp

theorem be4 (n : Nat) : beBytes 4 n = [UInt8.ofNat (n / 16777216 % 256), UInt8.ofNat (n / 65536 % 256), UInt8.ofNat (n / 256 % 256), UInt8.ofNat (n % 256)] := by
  simp [beBytes, Nat.div_div_eq_div_mul]

theorem zeroArr32 (w : World) : Sem.run Try.prog (zeroValue 174) w = .ok (.agg (bytesV (List.replicate 32 0)).toArray) w := by kernel_rfl

set_option maxRecDepth 100000 in
set_option maxHeartbeats 1000000 in
theorem text_walk (s : S8) (hs : s.ok) (w : World) :
    Calls Try.prog 132 #[s.val] w fun e w' => ∃ r, e = .returned (.string r) ∧ Txt r s.text ∧ Below w.heap.size w w' := by
  go_enter Try.func132, Try.ntmps132
  go_wp2_with (first
    | ((with_reducible refine wpList_box_new 144 (.tmp 0) s.cells (some 1) ?hgd ?ho ?hd ?hx ?_); (case hgd => rfl); (case ho => rfl); (case hd => rfl); (case hx => rfl); (intro b2 w2 l2 B2 e2 z2))
    | ((with_reducible refine wpList_alloc_new 174 (bytesV (List.replicate 32 0)) zeroArr32 (some 3) ?hgd ?ho ?hd ?_); (case hgd => rfl); (case ho => rfl); (case hd => rfl); (intro g w4 l4 B4 e4 z4))
    | ((with_reducible refine wpList_load_blk 144 (.tmp 1) b2 s.cells 144 _ (B2.below e4 (by omega)) Try.underlying144 rfl (size8 s) ?hgd ?ho ?hx ?_); (case hgd => rfl); (case ho => rfl); (case hx => rfl)))
  have hbel0 : Below w.heap.size w w4 := (e2.mono l2).trans (e4.mono (by omega))
  have HB4 := Lib.hid B4
  have hlo : w.heap.size ≤ g := by omega
  clear B2 B4 e2 e4 z2
  go_loopw [7] (fun i wr => ∃ k : Nat, k ≤ 8 ∧ i = .int .i64 k ∧ Blk wr g (bytesV (textTo s.l k ++ List.replicate (32 - 4 * k) 0)) 174 ∧ Below w.heap.size w wr) (fun i _ => 8 - (intOf i).toNat)
  case atStart => exact ⟨0, by omega, rfl, HB4.out.ext (by simp [textTo]), hbel0⟩
  case round =>
    clear HB4 hbel0
    obtain ⟨k, hk, rfl, hblk, hbel⟩ := hrel
    by_cases hlt : k < 8
    · have hlt' : (k : Int) < 8 := by omega
      obtain ⟨x, Hx⟩ : ∃ a, Hid (a = s.l.getD k 0) := ⟨_, rfl⟩
      have hv : s.cells[k]? = some (.int .u32 (x : Int)) := by rw [Hx.out]; exact nums32_at s.l k hlt
      have hlen := textTo_length s.l k (by show k ≤ 8; omega)
      have HL := Lib.hid hlen; clear hlen
      have q0 : wr.cell? ⟨g, 4 * k, none⟩ = some _ := hblk.cell (bytesV_at _ (4 * k) (by rw [List.length_append, HL.out]; simp; omega))
      have q1 : wr.cell? ⟨g, 4 * k + 1, none⟩ = some _ := hblk.cell (bytesV_at _ (4 * k + 1) (by rw [List.length_append, HL.out]; simp; omega))
      have q2 : wr.cell? ⟨g, 4 * k + 2, none⟩ = some _ := hblk.cell (bytesV_at _ (4 * k + 2) (by rw [List.length_append, HL.out]; simp; omega))
      have q3 : wr.cell? ⟨g, 4 * k + 3, none⟩ = some _ := hblk.cell (bytesV_at _ (4 * k + 3) (by rw [List.length_append, HL.out]; simp; omega))
      have f0 := hblk.free (4 * k)
      have f1 := hblk.free (4 * k + 1)
      have f2 := hblk.free (4 * k + 2)
      have f3 := hblk.free (4 * k + 3)
      have HB := Lib.hid hblk; clear hblk
      go_wp2_with ((with_reducible refine wpList_index_arr 144 142 (.tmp 6) (.tmp 7) s.cells 8 k (.int .u32 (x : Int)) (some 10) Try.underlying144 Try.isAgg142 Try.sizeOf142 hlt hv ?hgd ?ho ?hd ?hx ?hy ?_); (case hgd => rfl); (case ho => rfl); (case hd => rfl); (case hx => rfl); (case hy => rfl))
      go_roundw
      case rel =>
        refine ⟨k + 1, by omega, by go_num, ?_, (((hbel.setCell (by show w.heap.size ≤ g; omega) _).setCell (by show w.heap.size ≤ g; omega) _).setCell (by show w.heap.size ≤ g; omega) _).setCell (by show w.heap.size ≤ g; omega) _⟩
        refine ((((HB.out.set _ _).set _ _).set _ _).set _ _).ext ?_
        have n0 : (x : Int) / 16777216 % 256 = (((UInt8.ofNat (x / 16777216 % 256)).toNat : Nat) : Int) := by simp
        have n1 : (x : Int) / 65536 % 256 = (((UInt8.ofNat (x / 65536 % 256)).toNat : Nat) : Int) := by simp
        have n2 : (x : Int) / 256 % 256 = (((UInt8.ofNat (x / 256 % 256)).toNat : Nat) : Int) := by simp
        have n3 : (x : Int) % 256 = (((UInt8.ofNat (x % 256)).toNat : Nat) : Int) := by simp
        rw [n0, n1, n2, n3, bytesV_set, bytesV_set, bytesV_set, bytesV_set]
        congr 1
        rw [show List.replicate (32 - 4 * k) (0 : UInt8) = 0 :: 0 :: 0 :: 0 :: List.replicate (32 - 4 * (k + 1)) 0 by
          rw [show 32 - 4 * k = 32 - 4 * (k + 1) + 1 + 1 + 1 + 1 by omega]; rfl]
        rw [set4 _ _ 0 _ _ _ _ _ HL.out, textTo_succ _ _ hlt, ← Hx.out, be4]
        simp
      case measure => simp [intOf]; omega
    · obtain rfl : k = 8 := by omega
      have HB : Hid (Blk wr g (bytesV s.text) 174) := hblk.ext (by rw [textTo_all]; simp)
      clear hblk
      rw [show ((8 : Nat) : Int) = 8 from rfl]
      go_wp2_with ((with_reducible refine wpList_string_bytes 104 9 5 (.tmp 38) s.text g 0 32 32 (some 39) Try.underlying104 Try.underlying5 Try.underlying9 HB.out.range (S8.text_length s).symm ?hgd ?ho ?hd ?hx ?_); (case hgd => rfl); (case ho => rfl); (case hd => rfl); (case hx => rfl))
      go_ret
      exact ⟨_, rfl, Txt.mk _, hbel⟩
end Go.Proofs.Ytacoibiafpdoaaa
