/- Walks of package hmac. -/
import Derived.Test.YtacoibiafpdoaaaWSha7
import Derived.Test.YtacoibiafpdoaaaRow
import Derived.Test.YtacoibiafpdoaaaHmac
namespace Go.Proofs.Ytacoibiafpdoaaa
open Go Go.RowKit
set_option linter.unusedVariables false

/-- One text handed over as a row. -/
theorem sum_one (s : ByteArray) (w : World) (c : Nat) (hn : s.size ≤ 536870912) :
    Calls Try.prog 39 #[.slice (some ⟨w.heap.size, 0, none⟩) 1 c] (w.alloc (.cells #[.string s] 9)) fun e w' => ∃ r, e = .returned (.string r) ∧ Txt r (sha s.data.toList) ∧ Below w.heap.size w w' := by
  have hb : Blk (w.alloc (.cells #[.string s] 9)) w.heap.size [.string s] 9 := Blk.new w [.string s] _
  refine (sum_row w.heap.size 0 c [s] _ hb.lt ?_ ?_ (by simp)).mono ?_
  · intro j x hx
    rw [Nat.zero_add]
    refine hb.cell ?_
    cases j with
    | zero => simp at hx; subst hx; rfl
    | succ j => simp at hx
  · simp [catL]; exact hn
  · rintro e w' ⟨r, rfl, t, b⟩
    exact ⟨r, rfl, t.cast (by simp [catL]), ((Below.refl _ _).alloc (Nat.le_refl _) _).trans (b.mono (by simp))⟩

theorem sum_two (s t : ByteArray) (w : World) (c : Nat) (hn : s.size + t.size ≤ 536870912) :
    Calls Try.prog 39 #[.slice (some ⟨w.heap.size, 0, none⟩) 2 c] (w.alloc (.cells #[.string s, .string t] 9)) fun e w' => ∃ r, e = .returned (.string r) ∧ Txt r (sha (s.data.toList ++ t.data.toList)) ∧ Below w.heap.size w w' := by
  have hb : Blk (w.alloc (.cells #[.string s, .string t] 9)) w.heap.size [.string s, .string t] 9 := Blk.new w [.string s, .string t] _
  refine (sum_row w.heap.size 0 c [s, t] _ hb.lt ?_ ?_ (by simp)).mono ?_
  · intro j x hx
    rw [Nat.zero_add]
    refine hb.cell ?_
    match j, hx with
    | 0, hx => simp at hx; subst hx; rfl
    | 1, hx => simp at hx; subst hx; rfl
  · simp [catL]; exact hn
  · rintro e w' ⟨r, rfl, t, b⟩
    exact ⟨r, rfl, t.cast (by simp [catL]), ((Below.refl _ _).alloc (Nat.le_refl _) _).trans (b.mono (by simp))⟩

set_option maxHeartbeats 400000 in
theorem hkey_walk (k : ByteArray) (w : World) (hk : k.size ≤ 16777216) :
    Calls Try.prog 41 #[.string k] w fun e w' => ∃ r, e = .returned (.string r) ∧ Txt r (hkey k.data.toList) ∧ Below w.heap.size w w' := by
  have hk' : (k.size : Int) ≤ 16777216 := by omega
  by_cases h : 64 < k.size
  · have h' : (64 : Int) < k.size := by omega
    go_enter Try.func41, Try.ntmps41
    go_wp2_with fail
    refine (sum_one k _ _ (by omega)).mono ?_
    rintro e w1 ⟨r, rfl, tr, hb⟩
    have hs : r.size = 32 := by rw [tr.size, sha_length]
    have hs1 : r.size ≤ 32 := by omega
    have hs2 : 32 ≤ r.size := by omega
    have e32 : (64 : Int) - (r.size : Int) = ((32 : Nat) : Int) := by omega
    clear hs
    go_wp2_with fail
    refine (repeat0 32 _ (by omega)).mono ?_
    rintro e w2 ⟨z, rfl, tz, hb2⟩
    have hz : z.size ≤ 32 := by rw [tz.size]; simp
    go_wp2_with fail
    go_ret
    refine ⟨_, rfl, (tr.append tz).cast ?_, hb.trans (hb2.mono hb.size)⟩
    unfold hkey
    exact (if_pos (show 64 < k.data.toList.length from h)).symm
  · obtain ⟨m, hm⟩ : ∃ m, Hid (m = 64 - k.size) := ⟨_, rfl⟩
    have em : (64 : Int) - (k.size : Int) = (m : Int) := by have := hm.out; omega
    have hm' : m ≤ 64 := by have := hm.out; omega
    have h' : (k.size : Int) ≤ 64 := by omega
    go_enter Try.func41, Try.ntmps41
    go_wp2_with fail
    refine (repeat0 m _ (by omega)).mono ?_
    rintro e w2 ⟨z, rfl, tz, hb2⟩
    have hz : z.size ≤ 64 := by rw [tz.size]; simp; omega
    go_wp2_with fail
    go_ret
    refine ⟨_, rfl, ((Txt.self k).append tz).cast ?_, hb2⟩
    unfold hkey
    rw [hm.out]
    exact (if_neg (show ¬ 64 < k.data.toList.length from h)).symm

theorem xor_walk (c x : UInt8) (bx : Addr) (w : World) (hx : w.cell? bx = some (.int .u8 ((x.toNat : Nat) : Int))) :
    Calls Try.prog 143 #[.int .u8 ((c.toNat : Nat) : Int), .pointer (some bx)] w fun e w' => e = .returned (.int .u8 (((c ^^^ x).toNat : Nat) : Int)) ∧ w = w' := by
  have h1 := c.toNat_lt
  have h2 := x.toNat_lt
  have hf : Hid (bits BinOp.xor IntKind.u8 ((c.toNat : Nat) : Int) ((x.toNat : Nat) : Int) = (((c ^^^ x).toNat : Nat) : Int)) := by
    show _ = _
    rw [u8_xor_nat _ _ (by simpa using h1) (by simpa using h2)]; simp
  go_enter Try.func143, Try.ntmps143
  go_wp2
  go_ret
  refine ⟨?_, rfl⟩
  show Ending.returned (Value.int IntKind.u8 _) = _
  rw [← hf.out]

/-- The first k of these bytes, each held against one. -/
def xorTo (l : List UInt8) (x : UInt8) (k : Nat) : List UInt8 := (l.take k).map (fun c => c ^^^ x) ++ l.drop k
theorem xorTo_length (l : List UInt8) (x : UInt8) (k : Nat) : (xorTo l x k).length = l.length := by simp [xorTo]; omega
theorem xorTo_at (l : List UInt8) (x : UInt8) (k : Nat) (h : k < l.length) : (xorTo l x k)[k]? = some l[k] := by
  unfold xorTo
  rw [List.getElem?_append_right (by simp; omega)]
  simp [Nat.min_eq_left (Nat.le_of_lt h), h]
theorem xorTo_set (l : List UInt8) (x : UInt8) (k : Nat) (h : k < l.length) : (xorTo l x k).set k (l[k] ^^^ x) = xorTo l x (k + 1) := by
  have e : l.drop k = l[k] :: l.drop (k + 1) := List.drop_eq_getElem_cons h
  unfold xorTo
  rw [e, List.set_append_right _ _ (by simp; omega), List.take_succ_eq_append_getElem h, List.map_append, List.append_assoc]
  congr 1
  simp only [List.length_map, List.length_take, Nat.min_eq_left (Nat.le_of_lt h), Nat.sub_self, List.set_cons_zero, List.map_cons, List.map_nil, List.cons_append, List.nil_append]

set_option maxRecDepth 100000 in
set_option maxHeartbeats 1000000 in
theorem each_walk (bv bx g cap : Nat) (l : List UInt8) (z : List Value) (x : UInt8) (w : World) (hl : l.length = 64)
    (hv : w.cell? ⟨bv, 0, none⟩ = some (.slice (some ⟨g, 0, none⟩) 64 cap)) (hx : w.cell? ⟨bx, 0, none⟩ = some (.int .u8 ((x.toNat : Nat) : Int))) (hr : Row w g (bytesV l ++ z) 5) (hgv : g ≠ bv) (hgx : g ≠ bx) :
    Calls Try.prog 142 #[.func (.func 143) #[] #[.pointer (some ⟨bx, 0, none⟩)], .pointer (some ⟨bv, 0, none⟩)] w fun e w' => e = .returned (.tuple #[]) ∧ Row w' g (bytesV (l.map fun c => c ^^^ x) ++ z) 5 ∧ Kept g w w' := by
  have Hl := Lib.hid hl; clear hl
  have Hr := Lib.hid hr; clear hr
  have Hx := Lib.hid hx; clear hx
  have Hv := Lib.hid hv; clear hv
  go_enter Try.func142, Try.ntmps142
  go_wp2_with fail
  go_loopw [4] (fun i wr => ∃ k : Nat, k ≤ 64 ∧ i = .int .i64 k ∧ wr.cell? ⟨bv, 0, none⟩ = some (.slice (some ⟨g, 0, none⟩) 64 cap) ∧ wr.cell? ⟨bx, 0, none⟩ = some (.int .u8 ((x.toNat : Nat) : Int)) ∧ Row wr g (bytesV (xorTo l x k) ++ z) 5 ∧ Kept g w wr) (fun i _ => 64 - (intOf i).toNat)
  case atStart => exact ⟨0, by omega, rfl, Hv.out, Hx.out, by simpa [xorTo] using Hr.out, Kept.refl _ _⟩
  case round =>
    obtain ⟨k, hk, rfl, hv, hx, hr, hkp⟩ := hrel
    by_cases hlt : k < 64
    · have hlt' : (k : Int) < 64 := by omega
      have hkl : k < l.length := by rw [Hl.out]; exact hlt
      obtain ⟨c, Hc⟩ : ∃ c, Hid (c = l[k]) := ⟨l[k], (rfl : l[k] = l[k])⟩
      have hck : wr.cell? ⟨g, k, none⟩ = some (.int .u8 ((c.toNat : Nat) : Int)) := by
        refine hr.cell ?_
        have := xorTo_at l x k hkl
        obtain ⟨h1, h2⟩ := List.getElem?_eq_some_iff.1 this
        rw [List.getElem?_append_left (by rw [bytesV_length]; exact h1), bytesV_at _ _ h1, h2, ← Hc.out]
      have hcf : wr.frozen? ⟨g, k, none⟩ = false := hr.free (by rw [List.length_append, bytesV_length, xorTo_length]; omega)
      have HR := Lib.hid hr; clear hr
      go_wp2_with fail
      refine wp_region_still_tail_drew 9 (by kernel_rfl) (by kernel_rfl) ?_
      simp only [List.take_succ_cons, List.take_zero, List.drop_succ_cons, List.drop_zero]
      iterate 7 still_step
      still_call (still_of (xor_walk c x _ _ hx))
      iterate 1 still_step
      refine wpStill_nil ?_
      go_wp2_with fail
      go_roundw
      case rel =>
        refine ⟨k + 1, by omega, by go_num, ?_, ?_, ?_, (hkp.setCell _ _).drew⟩
        · rw [← hv]; exact World.cell?_setCell_other _ _ _ _ (by intro e; injection e with e1; exact hgv e1)
        · rw [← hx]; exact World.cell?_setCell_other _ _ _ _ (by intro e; injection e with e1; exact hgx e1)
        · refine ((HR.out.set _ _).ext ?_).drew
          rw [show ((c.toNat ^^^ x.toNat : Nat) : Int) = (((c ^^^ x).toNat : Nat) : Int) by simp, List.set_append_left _ _ (by rw [bytesV_length, xorTo_length]; exact hkl), bytesV_set, Hc.out, xorTo_set _ _ _ hkl]
      case measure => simp [intOf]; omega
    · obtain rfl : k = 64 := by omega
      have HR := Lib.hid hr; clear hr
      go_wp2_with fail
      go_end0
      refine ⟨rfl, HR.out.ext ?_, hkp⟩
      unfold xorTo
      rw [List.take_of_length_le (by rw [Hl.out]; exact Nat.le_refl _), List.drop_of_length_le (by rw [Hl.out]; exact Nat.le_refl _), List.append_nil]

theorem zeroBytes (w : World) : Sem.run Try.prog (zeroValue 104) w = .ok (.slice none 0 0) w := by kernel_rfl

set_option maxRecDepth 100000 in
set_option maxHeartbeats 1000000 in
theorem against_walk (k : ByteArray) (x : UInt8) (w : World) (hk : k.size ≤ 16777216) :
    Calls Try.prog 105 #[.string k, .int .u8 ((x.toNat : Nat) : Int)] w fun e w' => ∃ r, e = .returned (.string r) ∧ Txt r (heldL k.data.toList x) ∧ Below w.heap.size w w' := by
  go_enter Try.func105, Try.ntmps105
  go_wp2_with ((with_reducible refine wpList_box_one 5 (.tmp 1) (.int .u8 ((x.toNat : Nat) : Int)) rfl (some 3) ?hgd ?ho ?hd ?hx ?_); (case hgd => rfl); (case ho => rfl); (case hd => rfl); (case hx => rfl); (intro bx w2 l2 B2 e2 z2))
  refine (hkey_walk k _ hk).mono ?_
  rintro e w3 ⟨r, rfl, tr, hb3⟩
  have hr : Hid (r.size = 64) := by show _ = _; rw [tr.size, hkey_length]
  go_wp2_with (first
    | ((with_reducible refine wpList_bytes_of 9 104 5 (.tmp 8) r (some 9) Try.underlying9 Try.underlying104 Try.underlying5 ?hgd ?ho ?hd ?hx ?_); (case hgd => rfl); (case ho => rfl); (case hd => rfl); (case hx => rfl); (intro g cap z w4 l4 B4 e4 z4 hcap); (rw [hr.out]))
    | ((with_reducible refine wpList_alloc_one 104 (.slice none 0 0) zeroBytes rfl (some 5) ?hgd ?ho ?hd ?_); (case hgd => rfl); (case ho => rfl); (case hd => rfl); (intro bv w5 l5 B5 e5 z5); (have cv : w5.cell? ⟨bv, 0, none⟩ = some (.slice none 0 0) := B5.cell rfl); (have fv : w5.frozen? ⟨bv, 0, none⟩ = false := B5.free 0)))
  have q3 := hb3.size
  have hg : Row (w5.setCell ⟨bv, 0, none⟩ (.slice (some ⟨g, 0, none⟩) 64 cap)) g (bytesV (hkey k.data.toList) ++ z) 5 := by
    rw [← show r.data.toList = hkey k.data.toList from tr]
    exact (B4.below e5 (by omega)).set_other (by show g ≠ bv; omega) _
  have hx : (w5.setCell ⟨bv, 0, none⟩ (.slice (some ⟨g, 0, none⟩) 64 cap)).cell? ⟨bx, 0, none⟩ = some (.int .u8 ((x.toNat : Nat) : Int)) :=
    ((((B2.below hb3 (by omega)).below e4 (by omega)).below e5 (by omega)).set_other (by show bx ≠ bv; omega) _).cell rfl
  have hv : (w5.setCell ⟨bv, 0, none⟩ (.slice (some ⟨g, 0, none⟩) 64 cap)).cell? ⟨bv, 0, none⟩ = some (.slice (some ⟨g, 0, none⟩) 64 cap) := (B5.set 0 _).cell rfl
  refine (each_walk bv bx g cap (hkey k.data.toList) z x _ (hkey_length _) hv hx hg (by omega) (by omega)).mono ?_
  rintro e w6 ⟨rfl, R6, k6⟩
  have cv6 : w6.cell? ⟨bv, 0, none⟩ = some (.slice (some ⟨g, 0, none⟩) 64 cap) := (k6.blk (B5.set 0 _) (by omega)).cell rfl
  have HR : Hid (Row w6 g (bytesV (heldL k.data.toList x) ++ z) 5) := R6
  clear R6 hv hx hg cv fv
  go_wp2_with ((with_reducible refine wpList_string_bytes 104 9 5 (.tmp 14) (heldL k.data.toList x) g 0 64 cap (some 15) Try.underlying104 Try.underlying5 Try.underlying9 HR.out.range (heldL_length _ _).symm ?hgd ?ho ?hd ?hx ?_); (case hgd => rfl); (case ho => rfl); (case hd => rfl); (case hx => rfl))
  go_ret
  refine ⟨_, rfl, Txt.mk _, ?_⟩
  have hb5 : Below w.heap.size w w5 := (((e2.mono l2).trans (hb3.mono (by omega))).trans (e4.mono (by omega))).trans (e5.mono (by omega))
  exact k6.below (hb5.setCell (by show w.heap.size ≤ bv; omega) _) (by omega) (by simp; omega)

theorem against36 (k : ByteArray) (w : World) (hk : k.size ≤ 16777216) :
    Calls Try.prog 105 #[.string k, .int .u8 54] w fun e w' => ∃ r, e = .returned (.string r) ∧ Txt r (heldL k.data.toList 0x36) ∧ Below w.heap.size w w' := against_walk k 0x36 w hk
theorem against5c (k : ByteArray) (w : World) (hk : k.size ≤ 16777216) :
    Calls Try.prog 105 #[.string k, .int .u8 92] w fun e w' => ∃ r, e = .returned (.string r) ∧ Txt r (heldL k.data.toList 0x5c) ∧ Below w.heap.size w w' := against_walk k 0x5c w hk

theorem inner_walk (k m : ByteArray) (w : World) (hk : k.size ≤ 16777216) (hm : m.size ≤ 16777216) :
    Calls Try.prog 43 #[.string k, .string m] w fun e w' => ∃ r, e = .returned (.string r) ∧ Txt r (hinner k.data.toList m.data.toList) ∧ Below w.heap.size w w' := by
  go_enter Try.func43, Try.ntmps43
  go_wp2_with fail
  refine (against36 k _ hk).mono ?_
  rintro e w1 ⟨r, rfl, tr, hb⟩
  have hr : r.size ≤ 64 := by rw [tr.size, heldL_length]; omega
  go_wp2_with fail
  go_ret
  exact ⟨_, rfl, tr.append (Txt.self m), hb⟩

set_option maxHeartbeats 400000 in
theorem outer_walk (k m : ByteArray) (w : World) (hk : k.size ≤ 16777216) (hm : m.size ≤ 16777216) :
    Calls Try.prog 45 #[.string k, .string m] w fun e w' => ∃ r, e = .returned (.string r) ∧ Txt r (houter k.data.toList m.data.toList) ∧ Below w.heap.size w w' := by
  go_enter Try.func45, Try.ntmps45
  go_wp2_with fail
  refine (against5c k _ hk).mono ?_
  rintro e w1 ⟨r, rfl, tr, hb⟩
  have hr : r.size ≤ 64 := by rw [tr.size, heldL_length]; omega
  go_wp2_with fail
  refine (against36 k _ hk).mono ?_
  rintro e w2 ⟨q, rfl, tq, hb2⟩
  have hq : q.size ≤ 64 := by rw [tq.size, heldL_length]; omega
  go_wp2_with fail
  refine (sum_two q m _ _ (by omega)).mono ?_
  rintro e w3 ⟨s, rfl, ts, hb3⟩
  have hs : s.size ≤ 32 := by rw [ts.size, sha_length]; omega
  go_wp2_with fail
  go_ret
  refine ⟨_, rfl, (tr.append ts).cast ?_, hb.trans ((hb2.trans (hb3.mono hb2.size)).mono hb.size)⟩
  rw [tq]; rfl

theorem mac_walk (k m : ByteArray) (w : World) (hk : k.size ≤ 16777216) (hm : m.size ≤ 16777216) :
    Calls Try.prog 38 #[.string k, .string m] w fun e w' => ∃ r, e = .returned (.string r) ∧ Txt r (mac k.data.toList m.data.toList) ∧ Below w.heap.size w w' := by
  go_enter Try.func38, Try.ntmps38
  go_wp2_with fail
  refine (outer_walk k m _ hk hm).mono ?_
  rintro e w1 ⟨r, rfl, tr, hb⟩
  have hr : r.size ≤ 96 := by rw [tr.size, houter_length]; omega
  go_wp2_with fail
  refine (sum_one r _ _ (by omega)).mono ?_
  rintro e w2 ⟨s, rfl, ts, hb2⟩
  go_wp2_with fail
  go_ret
  refine ⟨_, rfl, ts.cast ?_, hb.trans (hb2.mono hb.size)⟩
  rw [tr]; rfl
end Go.Proofs.Ytacoibiafpdoaaa
