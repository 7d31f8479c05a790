/- Walks of the documents' HMAC (chapter 03). -/
import Derived.Test.YtacoibiafpdoaaaRef5
namespace Go.Proofs.Ytacoibiafpdoaaa
open Go Go.RowKit
set_option linter.unusedVariables false

theorem rkey_walk (k : ByteArray) (w : World) (hk : k.size ≤ 16777216) :
    Calls Try.prog 42 #[.string k] w fun e w' => ∃ r, e = .returned (.string r) ∧ Txt r (hkey k.data.toList) ∧ Below w.heap.size w w' := by
  by_cases c1 : 64 < k.size
  · have d1 : (64 : Int) < k.size := by omega
    go_enter Try.func42, Try.ntmps42
    go_wp2_with fail
    refine (rsum_walk k _ (by omega)).mono ?_
    rintro e w1 ⟨q, rfl, tq, hb1⟩
    have hq : q.size = 32 := by rw [tq.size, sha_length]
    go_wp2_with fail
    refine (noughts_walk _ _ (by omega) (by omega)).mono ?_
    rintro e w2 ⟨z, rfl, tz, hb2⟩
    have hz : z.size = 32 := by rw [tz.size]; rfl
    go_wp2_with fail
    go_ret
    refine ⟨_, rfl, (tq.append tz).cast ?_, hb1.trans (hb2.mono hb1.size)⟩
    unfold hkey; rw [if_pos (show 64 < k.data.toList.length from c1)]; rfl
  · have d1 : (k.size : Int) ≤ 64 := by omega
    obtain ⟨m, Hm⟩ : ∃ m, Hid (m = 64 - k.size) := ⟨_, rfl⟩
    have em : (64 : Int) - k.size = (m : Int) := by have := Hm.out; omega
    have hm : m ≤ 64 := by have := Hm.out; omega
    go_enter Try.func42, Try.ntmps42
    go_wp2_with fail
    refine (noughts_walk m _ (by omega) (by omega)).mono ?_
    rintro e w2 ⟨z, rfl, tz, hb2⟩
    have hz : z.size ≤ 64 := by rw [tz.size]; simpa using hm
    go_wp2_with fail
    go_ret
    refine ⟨_, rfl, ((Txt.self k).append tz).cast ?_, hb2⟩
    unfold hkey; rw [if_neg (show ¬ 64 < k.data.toList.length from c1), Hm.out]; rfl

set_option maxRecDepth 100000 in
set_option maxHeartbeats 1000000 in
theorem rheld_walk (k : ByteArray) (n : Int) (x : UInt8) (w : World) (hk : k.size ≤ 16777216) (hn : n = ((x.toNat : Nat) : Int)) :
    Calls Try.prog 106 #[.string k, .int .i64 n] w fun e w' => ∃ r, e = .returned (.string r) ∧ Txt r (heldL k.data.toList x) ∧ Below w.heap.size w w' := by
  have HN := Lib.hid hn; clear hn
  go_enter Try.func106, Try.ntmps106
  go_wp2_with fail
  refine (rkey_walk k _ hk).mono ?_
  rintro e w1 ⟨q, rfl, tq, hb1⟩
  have hq : (q.size : Int) = 64 := by rw [tq.size, hkey_length]; rfl
  have hq2 : q.size = 64 := by rw [tq.size, hkey_length]
  go_wp2_with fail
  go_loopw [6, 7] (fun v i wr => ∃ (j : Nat) (r : ByteArray), j ≤ 64 ∧ i = .int .i64 j ∧ v = .string r ∧ Txt r ((hkey k.data.toList).take j |>.map fun c => c ^^^ x) ∧ Below w.heap.size w wr) (fun v i _ => 64 - (intOf i).toNat)
  case atStart => exact ⟨0, ⟨#[]⟩, by omega, rfl, rfl, (Txt.mk []).cast (by simp), hb1⟩
  case round =>
    clear hb1
    obtain ⟨j, r, hj, rfl, rfl, tr, hbel⟩ := hrel
    have hr : r.size ≤ 64 := by rw [tr.size, List.length_map, List.length_take]; omega
    by_cases hlt : j < 64
    · have hlt' : (j : Int) < 64 := by omega
      have hjq : j < q.size := by omega
      obtain ⟨c, Hc⟩ : ∃ c : UInt8, Hid (c = q[j] ^^^ x) := ⟨q[j] ^^^ x, Lib.hid rfl⟩
      obtain ⟨p, hp, tp⟩ : ∃ p, str [c] = Value.string p ∧ Txt p [c] := ⟨_, rfl, Txt.mk _⟩
      have HP := Lib.hid hp; clear hp
      have sp : p.size ≤ 1 := by rw [tp.size]; simp
      have hbj := q[j].toNat_lt
      have ec : bits BinOp.xor IntKind.i64 ((q[j].toNat : Nat) : Int) n % 256 = ((c.toNat : Nat) : Int) := by
        have h1 := x.toNat_lt
        have h2 : q[j].toNat ^^^ x.toNat < 256 := Nat.xor_lt_two_pow (n := 8) hbj h1
        rw [HN.out, i64_xor_nat _ _ (by omega) (by omega), Hc.out, UInt8.toNat_xor]
        omega
      have EC := Lib.hid ec; clear ec
      go_wp2_with (first
        | ((with_reducible refine wpList_slice_new 104 5 1 ?parts [.int .u8 (bits BinOp.xor IntKind.i64 ((q[j].toNat : Nat) : Int) n % 256)] (.int .u8 0) 1 1 (some 24) Try.underlying104 infoByte (by omega) (by omega) ?hgd ?ho ?hd ?hf ?_); (case hgd => rfl); (case ho => rfl); (case hd => rfl); (case hf => kernel_rfl); (intro g w2 l2 B2 e2 z2); (have HB2 : Hid (Blk w2 g (bytesV [c]) 5) := B2.ext (by rw [EC.out]; rfl)); (clear B2))
        | ((with_reducible refine wpList_string_bytes 104 9 5 (.tmp 24) [c] g 0 1 1 (some 25) Try.underlying104 Try.underlying5 Try.underlying9 HB2.out.range (List.length_singleton (a := c)).symm ?hgd ?ho ?hd ?hx ?_); (case hgd => rfl); (case ho => rfl); (case hd => rfl); (case hx => rfl); (rw [HP.out])))
      go_roundw
      case rel =>
        have y := hbel.size
        refine ⟨j + 1, _, by omega, by go_num, rfl, ?_, hbel.trans (e2.mono (by omega))⟩
        refine (tr.append tp).cast ?_
        have hl : j < (hkey k.data.toList).length := by rw [hkey_length]; exact hlt
        rw [List.take_succ_eq_append_getElem hl, List.map_append, Hc.out]
        have eq : (hkey k.data.toList)[j] = q[j] := by
          have := getD_data q j hjq
          rw [show q.data.toList = _ from tq] at this
          rw [← this, List.getD_eq_getElem?_getD, List.getElem?_eq_getElem hl]; rfl
        rw [← eq]; rfl
      case measure => simp [intOf]; omega
    · obtain rfl : j = 64 := by omega
      go_wp2_with fail
      go_ret
      refine ⟨r, rfl, tr.cast ?_, hbel⟩
      rw [List.take_of_length_le (by rw [hkey_length]; exact Nat.le_refl _)]; rfl

theorem rinner_walk (k m : ByteArray) (w : World) (hk : k.size ≤ 16777216) (hm : m.size ≤ 16777216) :
    Calls Try.prog 44 #[.string k, .string m] w fun e w' => ∃ r, e = .returned (.string r) ∧ Txt r (hinner k.data.toList m.data.toList) ∧ Below w.heap.size w w' := by
  go_enter Try.func44, Try.ntmps44
  go_wp2_with fail
  refine (rheld_walk k 54 54 _ hk rfl).mono ?_
  rintro e w1 ⟨q, rfl, tq, hb1⟩
  have hq : q.size = 64 := by rw [tq.size, heldL_length]
  go_wp2_with fail
  go_ret
  exact ⟨_, rfl, tq.append (Txt.self m), hb1⟩

theorem router_walk (k m : ByteArray) (w : World) (hk : k.size ≤ 16777216) (hm : m.size ≤ 16777216) :
    Calls Try.prog 46 #[.string k, .string m] w fun e w' => ∃ r, e = .returned (.string r) ∧ Txt r (houter k.data.toList m.data.toList) ∧ Below w.heap.size w w' := by
  go_enter Try.func46, Try.ntmps46
  go_wp2_with fail
  refine (rheld_walk k 92 92 _ hk rfl).mono ?_
  rintro e w1 ⟨q, rfl, tq, hb1⟩
  have hq : q.size = 64 := by rw [tq.size, heldL_length]
  go_wp2_with fail
  refine (rinner_walk k m _ hk hm).mono ?_
  rintro e w2 ⟨i, rfl, ti, hb2⟩
  have hi : i.size ≤ 16777280 := by rw [ti.size, hinner_length, show m.data.toList.length = m.size from rfl]; omega
  go_wp2_with fail
  refine (rsum_walk i _ (by omega)).mono ?_
  rintro e w3 ⟨h, rfl, th, hb3⟩
  have hh : h.size = 32 := by rw [th.size, sha_length]
  go_wp2_with fail
  go_ret
  have y1 := hb1.size
  have y2 := hb2.size
  exact ⟨_, rfl, tq.append (th.cast (by rw [ti])), (hb1.trans (hb2.mono (by omega))).trans (hb3.mono (by omega))⟩

theorem rmac_walk (k m : ByteArray) (w : World) (hk : k.size ≤ 16777216) (hm : m.size ≤ 16777216) :
    Calls Try.prog 47 #[.string k, .string m] w fun e w' => ∃ r, e = .returned (.string r) ∧ Txt r (mac k.data.toList m.data.toList) ∧ Below w.heap.size w w' := by
  go_enter Try.func47, Try.ntmps47
  go_wp2_with fail
  refine (router_walk k m _ hk hm).mono ?_
  rintro e w1 ⟨q, rfl, tq, hb1⟩
  have hq : q.size = 96 := by rw [tq.size, houter_length]
  go_wp2_with fail
  refine (rsum_walk q _ (by omega)).mono ?_
  rintro e w2 ⟨h, rfl, th, hb2⟩
  go_wp2_with fail
  go_ret
  exact ⟨_, rfl, th.cast (by rw [tq]; rfl), hb1.trans (hb2.mono hb1.size)⟩
end Go.Proofs.Ytacoibiafpdoaaa
