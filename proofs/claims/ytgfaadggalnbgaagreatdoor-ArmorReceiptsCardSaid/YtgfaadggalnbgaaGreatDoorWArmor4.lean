/- Walk of armor.Bytes. -/
import Derived.Test.YtgfaadggalnbgaaGreatDoorWArmor3
import Derived.WalkSmall
import Derived.OwnWalk
import Derived.Maps.AppendAt
namespace Go.Proofs.YtgfaadggalnbgaaGreatDoor
set_option linter.unusedSimpArgs false
set_option linter.unusedVariables false
open Go Go.RowKit
set_option linter.unusedVariables false

theorem alpha_index (c : UInt8) : Lib.indexByte [97, 98, 99, 100, 101, 102, 103, 104, 105, 106, 107, 108, 109, 110, 111, 112, 113, 114, 115, 116, 117, 118, 119, 120, 121, 122, 50, 51, 52, 53, 54, 55] c = fiveI c := by
  have : ∀ n, n < 256 → Lib.indexByte [97, 98, 99, 100, 101, 102, 103, 104, 105, 106, 107, 108, 109, 110, 111, 112, 113, 114, 115, 116, 117, 118, 119, 120, 121, 122, 50, 51, 52, 53, 54, 55] (UInt8.ofNat n) = fiveI (UInt8.ofNat n) := by decide +kernel
  have h := this c.toNat c.toNat_lt
  simpa using h
theorem and127 (n : Nat) (h : n < 128) : bits BinOp.and IntKind.i32 ((n : Nat) : Int) 127 = (n : Int) := by
  have : ∀ n : Nat, n < 128 → bits BinOp.and IntKind.i32 ((n : Nat) : Int) 127 = (n : Int) := by decide +kernel
  exact this n h
theorem arm_bits5 (x b : Nat) (hx : x < 65536) (hb : b < 32) : bits BinOp.or IntKind.i64 (bits BinOp.and IntKind.i64 ((x : Int) * 32) 65535) (b : Int) = ((x * 32 % 65536 + b : Nat) : Int) := by
  have e := and_mask (x * 32) 16 (by omega) (by omega)
  rw [show ((2 ^ 16 - 1 : Nat) : Int) = 65535 by rfl, show ((x * 32 : Nat) : Int) = (x : Int) * 32 by simp] at e
  rw [e, i64_or_nat _ _ (by omega) (by omega)]
  have := Nat.two_pow_add_eq_or_of_lt (i := 5) (b := b) (by omega) (x % 2048)
  congr 1
  rw [show x * 32 % 2 ^ 16 = 2 ^ 5 * (x % 2048) by omega, ← this]
theorem dig_low8 (N b m q : Nat) (h : 8 * (m + 1) + q = b) (hq : q ≤ 8) : N % 65536 / 2 ^ q % 256 = dig N b 8 m := by
  rw [dig_in (by omega), show b - 8 * (m + 1) = q by omega]
  have h1 : (65536 : Nat) = 2 ^ q * 2 ^ (16 - q) := by rw [← Nat.pow_add, show q + (16 - q) = 16 by omega]
  have h2 : (2 : Nat) ^ (16 - q) = 256 * 2 ^ (8 - q) := by rw [show (256 : Nat) = 2 ^ 8 by rfl, ← Nat.pow_add]; congr 1; omega
  rw [h1, Nat.mod_mul_right_div_self, h2, Nat.mod_mul_right_mod]
theorem lt_of_block {w : World} {k : Nat} {o : Obj} (h : w.heap[k]? = some o) : k < w.heap.size := (Array.getElem?_eq_some_iff.1 h).1

/-- How armor.Bytes ends. -/
def ABytesEnd (t : List UInt8) (e : Ending) : Prop :=
  (∃ o, decL t = some o ∧ ∃ r, e = .returned (.tuple #[.string r, .int .i64 0]) ∧ Txt r o) ∨ (decL t = none ∧ e = .returned (.tuple #[.string ⟨#[]⟩, .int .i64 3]))

theorem decL_none {t : List UInt8} {i : Nat} {c : UInt8} {v : List Nat} (hv : (t.take i).mapM fiveB = some v) (hc : t.take (i + 1) = t.take i ++ [c]) (h : fiveB c = none) : decL t = none := by
  unfold decL
  have : t.mapM fiveB = none := by
    have e : t = t.take i ++ c :: t.drop (i + 1) := by
      conv => lhs; rw [← List.take_append_drop (i + 1) t, hc]
      simp
    rw [e, List.mapM_append, hv, List.mapM_cons, h]
    rfl
  rw [this]

set_option maxRecDepth 100000 in
set_option maxHeartbeats 2000000 in
theorem abytes_walk (t : ByteArray) (w : World) (ht : t.size ≤ 16777216) :
    Calls Tryz.prog 12 #[.string t] w fun e w' => ABytesEnd t.data.toList e ∧ Below w.heap.size w w' := by
  have hl : t.data.toList.length = t.size := rfl
  have HL := Lib.hid hl; clear hl
  obtain ⟨i0, hi, hz0, hz1, hz2⟩ := info_parts infoByte
  go_enter Tryz.func12, Tryz.ntmps12
  go_wp2_with fail
  go_loopw [4, 5, 6] (fun vb vx vn wr => ∃ (pos x n m : Nat) (v : List Nat), pos ≤ t.size ∧ vx = .int .i64 x ∧ vn = .int .i64 n ∧ (t.data.toList.take pos).mapM fiveB = some v ∧ v.length = pos ∧ 8 * m + n = 5 * pos ∧ n < 8 ∧
    x = t32 v % 65536 ∧ wr.heap[w.heap.size]? = some (.stringIter t pos) ∧ wr.ownsRow (w.heap.size + 1) 5 1 vb m (bytesV (bytesTo (t32 v) (5 * pos) m)) ∧ Below w.heap.size w wr) (fun _ _ _ wr => t.size - wr.iterPos w.heap.size)
  case atStart => exact ⟨0, 0, 0, 0, [], by omega, rfl, rfl, rfl, rfl, rfl, by omega, rfl, World.iter_heap w t 0, World.ownsRow_nil _ _ _ _, (Below.refl _ _).alloc (Nat.le_refl _) _⟩
  case round =>
    obtain ⟨pos, x, n, m, v, hpos, rfl, rfl, hv, hvl, hm, hn, hx, hit, hown, hbel⟩ := hrel
    have hpos0 := iterPos_of hit
    have HV := Lib.hid hv; clear hv
    have HVL := Lib.hid hvl; clear hvl
    have HM := Lib.hid hm; clear hm
    have HX := Lib.hid hx; clear hx
    have HP := Lib.hid hpos0; clear hpos0
    by_cases hp : pos < t.size
    · obtain ⟨c, hc⟩ : ∃ c, c = t[pos] := ⟨_, rfl⟩
      have hc8 := c.toNat_lt
      have htk : t.data.toList.take (pos + 1) = t.data.toList.take pos ++ [c] := by
        rw [List.take_succ_eq_append_getElem (by rw [HL.out]; exact hp), hc]; rfl
      have HTK := Lib.hid htk; clear htk
      by_cases ha : c.toNat < 128
      · have hnx : ∀ ty, (Instr.next (.pointer (some ⟨w.heap.size, 0, none⟩)) true ty).run Tryz.prog wr = .ok (.tuple #[.bool true, .int .i64 pos, .int .i32 (c.toNat : Nat)]) (wr.iterAt w.heap.size t (pos + 1)) := fun ty => by
          rw [hc] at ha ⊢; exact Lib.run_next_ascii_at wr w.heap.size t pos ty hit hp ha
        have hit2 := Lib.iterAt_heap wr w.heap.size t pos (pos + 1) hit
        have hbw2 := Lib.below_iterAt hbel (k := w.heap.size) (Nat.le_refl _) t (pos + 1)
        have hown2 := ownsRow_iterAt hown (k := w.heap.size) (by omega) t (pos + 1)
        obtain ⟨W1, hW1⟩ : ∃ W1, W1 = wr.iterAt w.heap.size t (pos + 1) := ⟨_, rfl⟩
        rw [← hW1] at hnx hit2 hbw2 hown2
        have hBlt := lt_of_block hit2
        have h127 := and127 c.toNat ha
        have HIT := Lib.hid hit2; clear hit2
        have HOWN := Lib.hid hown2; clear hown2
        clear hW1 hit hown hbel hc
        go_wp2_with fail
        refine (Tryz.strings_IndexByte _ _ _).mono ?_
        rintro e w2 ⟨rfl, rfl⟩
        rw [show (((c.toNat : Nat) : Int).toNat.toUInt8) = c by simp, alpha_index]
        clear h127 hnx
        cases h5 : fiveB c with
        | none =>
          have e5 : fiveI c = -1 := by unfold fiveI; rw [h5]
          rw [e5]
          have H5 := Lib.hid h5; clear h5 e5
          have ha' : (c.toNat : Int) ≤ 127 := by omega
          go_wp2_with fail
          go_ret2
          exact ⟨.inr ⟨decL_none HV.out HTK.out H5.out, rfl⟩, hbw2⟩
        | some z =>
          have e5 : fiveI c = (z : Int) := by unfold fiveI; rw [h5]
          rw [e5]
          have hz := fiveB_lt h5
          have hz' : (z : Int) < 32 := by omega
          have H5 := Lib.hid h5; clear h5 e5
          have ha' : (c.toNat : Int) ≤ 127 := by omega
          have hx : x < 65536 := by rw [HX.out]; omega
          obtain ⟨y, Hy⟩ : ∃ y, Hid (y = t32 (v ++ [z]) % 65536) := ⟨_, rfl⟩
          have hy : y < 65536 := by rw [Hy.out]; omega
          have hE : bits BinOp.or IntKind.i64 (bits BinOp.and IntKind.i64 ((x : Int) * 32) 65535) (z : Int) = (y : Int) := by
            rw [arm_bits5 x z hx hz, Hy.out, t32_snoc, HX.out]
            congr 1
            omega
          have hvs : (t.data.toList.take (pos + 1)).mapM fiveB = some (v ++ [z]) := by
            rw [HTK.out, List.mapM_append, HV.out]
            simp [H5.out]
          have HVS := Lib.hid hvs; clear hvs
          by_cases h3 : 3 ≤ n
          · obtain ⟨q, rfl⟩ : ∃ q, n = q + 3 := ⟨n - 3, by omega⟩
            have hq : (q : Int) ≤ 4 := by omega
            obtain ⟨D, HD⟩ : ∃ D : UInt8, Hid (D = UInt8.ofNat (dig (t32 (v ++ [z])) (5 * (pos + 1)) 8 m)) := ⟨_, rfl⟩
            have hD : (y : Int) / 2 ^ q % 256 = ((D.toNat : Nat) : Int) := by
              have h1 : y / 2 ^ q % 256 = dig (t32 (v ++ [z])) (5 * (pos + 1)) 8 m := by rw [Hy.out]; exact dig_low8 _ _ _ _ (by have := HM.out; omega) (by omega)
              rw [HD.out, ← h1, show (y : Int) / 2 ^ q % 256 = ((y / 2 ^ q % 256 : Nat) : Int) by simp]
              simp
            have hmb : m ≤ 16777216 := by have := HM.out; omega
            go_wp2_with (at_builtin; refine wpList_append_own _ rfl _ _ 55 rfl (w.heap.size + 1) 5 i0 (.int .u8 0) 1 1 Tryz.underlying55 hi hz0 hz1 hz2 rfl (by decide) _ _ _ rfl (HOWN.out.alloc _) ⟨w2.heap.size, 0, none⟩ 1 1 [.int .u8 (D.toNat : Nat)] rfl rfl (cell_one_new _ _ _) (fun x hx => by simp at hx; subst hx; rfl) (by unfold maxLen; omega) (by omega) (by simp; omega) ?_; intro v' w3 hown' hgrow3 hnil3)
            have hit3 : w3.heap[w.heap.size]? = some (.stringIter t (pos + 1)) := by
              rw [hgrow3.block w.heap.size (by simp; omega) (fun h => by have := (HOWN.out.lt _ h.symm).1; omega), Below.heap_alloc _ _ _ hBlt]; exact HIT.out
            have hbw3 : Below w.heap.size w w3 := Below.grown (hbw2.alloc (by omega) _) hgrow3 (by simp; omega) (fun j hj => by have := (HOWN.out.lt _ hj).1; omega)
            have HO3 := Lib.hid hown'; clear hown' hgrow3 hnil3
            have HI3 := Lib.hid hit3; clear hit3
            clear hE hD
            go_wp2_with fail
            go_roundw
            case rel =>
              refine ⟨pos + 1, y, q, m + 1, v ++ [z], by omega, rfl, by go_num, HVS.out, by have := HVL.out; simp; omega, by have := HM.out; omega, by omega, Hy.out, HI3.out, ?_, hbw3⟩
              have := HO3.out
              rw [bytesTo_succ, ← HD.out, bytesV_append]
              rw [show bytesTo (t32 (v ++ [z])) (5 * (pos + 1)) m = bytesTo (t32 v) (5 * pos) m by
                rw [t32_snoc, show 32 * t32 v + z = t32 v * 2 ^ 5 + z by omega, show 5 * (pos + 1) = 5 * pos + 5 by omega, bytesTo_more (by have := HM.out; omega) hz]]
              exact this
            case measure => rw [iterPos_of HI3.out, HP.out]; omega
          · have h3' : (n : Int) < 3 := by omega
            go_wp2_with fail
            clear hE
            go_roundw
            case rel =>
              refine ⟨pos + 1, y, n + 5, m, v ++ [z], by omega, rfl, by go_num, HVS.out, by have := HVL.out; simp; omega, by have := HM.out; omega, by omega, Hy.out, HIT.out, ?_, hbw2⟩
              have := HOWN.out
              rw [t32_snoc, show 32 * t32 v + z = t32 v * 2 ^ 5 + z by omega, show 5 * (pos + 1) = 5 * pos + 5 by omega, bytesTo_more (by have := HM.out; omega) hz]
              exact this
            case measure => rw [iterPos_of HIT.out, HP.out]; omega
      · have ha2 : 128 ≤ (t[pos]'hp).toNat := by rw [← hc]; omega
        have hdec := decode_high t pos hp ha2
        obtain ⟨R, HR⟩ : ∃ R, Hid (R = Utf8.decode t pos) := ⟨_, rfl⟩
        have hnx : ∀ ty, (Instr.next (.pointer (some ⟨w.heap.size, 0, none⟩)) true ty).run Tryz.prog wr = .ok (.tuple #[.bool true, .int .i64 pos, .int .i32 (R.1 : Nat)]) (wr.iterAt w.heap.size t (pos + R.2)) := fun ty => by
          rw [HR.out]; exact Lib.run_next_any_at wr w.heap.size t pos ty hit hp
        have hbw2 := Lib.below_iterAt hbel (k := w.heap.size) (Nat.le_refl _) t (pos + R.2)
        obtain ⟨W1, hW1⟩ : ∃ W1, W1 = wr.iterAt w.heap.size t (pos + R.2) := ⟨_, rfl⟩
        rw [← hW1] at hnx hbw2
        have hr1 : (127 : Int) < (R.1 : Int) := by rw [HR.out]; omega
        have hfi : fiveB c = none := by unfold fiveB; rw [if_neg (by omega), if_neg (by omega)]
        have HF := Lib.hid hfi; clear hfi
        clear hW1 hit hown hbel hc hdec ha2
        go_wp2_with fail
        refine (Tryz.strings_IndexByte _ _ _).mono ?_
        rintro e w2 ⟨rfl, rfl⟩
        clear hnx
        go_wp2_with fail
        go_ret2
        exact ⟨.inr ⟨decL_none HV.out HTK.out HF.out, rfl⟩, hbw2⟩
    · obtain rfl : pos = t.size := by omega
      have hnx : ∀ ty, (Instr.next (.pointer (some ⟨w.heap.size, 0, none⟩)) true ty).run Tryz.prog wr = .ok (.tuple #[.bool false]) wr := fun ty => Lib.run_next_end_at wr w.heap.size t t.size ty hit hp
      have hraw : bytesTo (t32 v) (5 * t.size) m = rawL v := by
        unfold rawL
        rw [HVL.out, show 5 * t.size / 8 = m by have := HM.out; omega]
      rw [hraw] at hown
      have HOWN := Lib.hid hown; clear hown
      have HRAW := Lib.hid hraw; clear hraw
      have hall : t.data.toList.mapM fiveB = some v := by have := HV.out; rwa [List.take_of_length_le (by rw [HL.out]; omega)] at this
      have HA := Lib.hid hall; clear hall
      obtain ⟨o, ho, to'⟩ : ∃ o, str (rawL v) = Value.string o ∧ Txt o (rawL v) := ⟨_, rfl, Txt.mk _⟩
      have HO := Lib.hid ho; clear ho
      have hm5 : m ≤ 16777216 := by have := HM.out; omega
      have so : o.size ≤ 16777216 := by rw [to'.size, ← HRAW.out, bytesTo_length]; exact hm5
      have hlen : m = (rawL v).length := by rw [← HRAW.out, bytesTo_length]
      have HLEN := Lib.hid hlen; clear hlen
      rcases HOWN.out.2 with ⟨rfl, hm0⟩ | ⟨g, cap, cur, rfl, hg, hgg, _⟩
      · have hnil : rawL v = [] := List.eq_nil_of_length_eq_zero (by rw [← HLEN.out]; exact hm0)
        have HNIL := Lib.hid hnil; clear hnil hm0 HOWN
        have hstr : str [] = Value.string o := by rw [← HNIL.out]; exact HO.out
        have HSTR := Lib.hid hstr; clear hstr
        go_wp2_with ((with_reducible refine wpList_string_nil 55 9 5 (.tmp 43) (some 44) Tryz.underlying55 Tryz.underlying5 Tryz.underlying9 ?hgd ?ho ?hd ?hx ?_); (case hgd => rfl); (case ho => rfl); (case hd => rfl); (case hx => rfl); (rw [HSTR.out]))
        refine (aletters_walk o _ so).mono ?_
        rintro e w3 ⟨r, rfl, tr, hb3⟩
        by_cases he : letL (rawL v) = t.data.toList
        · have h1 : (r.toList == t.toList) = true := tr.same (Txt.self t) (by rw [show o.data.toList = _ from to']; exact he)
          have HE := Lib.hid he; clear he
          go_wp2_with ((with_reducible refine wpList_string_nil 55 9 5 (.tmp 48) (some 49) Tryz.underlying55 Tryz.underlying5 Tryz.underlying9 ?hgd ?ho ?hd ?hx ?_); (case hgd => rfl); (case ho => rfl); (case hd => rfl); (case hx => rfl); (rw [HSTR.out]))
          go_ret2
          refine ⟨.inl ⟨rawL v, ?_, o, rfl, to'⟩, hbel.trans (hb3.mono hbel.size)⟩
          unfold decL
          rw [HA.out]
          simp [HE.out]
        · have h1 : (r.toList == t.toList) = false := tr.other (Txt.self t) (by rw [show o.data.toList = _ from to']; exact he)
          have HE := Lib.hid he; clear he
          go_wp2_with fail
          go_ret2
          refine ⟨.inr ⟨?_, rfl⟩, hbel.trans (hb3.mono hbel.size)⟩
          unfold decL
          rw [HA.out]
          simp [HE.out]
      · have hrg : wr.rangeAt g 0 (bytesV (rawL v)) := by
          intro j u hu
          rw [Nat.zero_add]
          have := HOWN.out.cells (g := g) rfl j u hu
          rwa [Addr.add_mid, Nat.zero_add] at this
        have hgl := lt_of_block hgg
        have HRG := Lib.hid hrg; clear hrg hgg HOWN
        go_wp2_with ((with_reducible refine wpList_string_bytes 55 9 5 (.tmp 43) (rawL v) g 0 m cap (some 44) Tryz.underlying55 Tryz.underlying5 Tryz.underlying9 HRG.out HLEN.out ?hgd ?ho ?hd ?hx ?_); (case hgd => rfl); (case ho => rfl); (case hd => rfl); (case hx => rfl); (rw [HO.out]))
        refine (aletters_walk o _ so).mono ?_
        rintro e w3 ⟨r, rfl, tr, hb3⟩
        have hrg3 : w3.rangeAt g 0 (bytesV (rawL v)) := fun j u hu => by rw [hb3.cell (by show g < wr.heap.size; exact hgl)]; exact HRG.out j u hu
        have HRG3 := Lib.hid hrg3; clear hrg3
        by_cases he : letL (rawL v) = t.data.toList
        · have h1 : (r.toList == t.toList) = true := tr.same (Txt.self t) (by rw [show o.data.toList = _ from to']; exact he)
          have HE := Lib.hid he; clear he
          go_wp2_with ((with_reducible refine wpList_string_bytes 55 9 5 (.tmp 48) (rawL v) g 0 m cap (some 49) Tryz.underlying55 Tryz.underlying5 Tryz.underlying9 HRG3.out HLEN.out ?hgd ?ho ?hd ?hx ?_); (case hgd => rfl); (case ho => rfl); (case hd => rfl); (case hx => rfl); (rw [HO.out]))
          go_ret2
          refine ⟨.inl ⟨rawL v, ?_, o, rfl, to'⟩, hbel.trans (hb3.mono hbel.size)⟩
          unfold decL
          rw [HA.out]
          simp [HE.out]
        · have h1 : (r.toList == t.toList) = false := tr.other (Txt.self t) (by rw [show o.data.toList = _ from to']; exact he)
          have HE := Lib.hid he; clear he
          go_wp2_with fail
          go_ret2
          refine ⟨.inr ⟨?_, rfl⟩, hbel.trans (hb3.mono hbel.size)⟩
          unfold decL
          rw [HA.out]
          simp [HE.out]
end Go.Proofs.YtgfaadggalnbgaaGreatDoor
