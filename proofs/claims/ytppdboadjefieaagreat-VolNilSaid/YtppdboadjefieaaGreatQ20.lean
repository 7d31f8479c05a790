/- Data that are hidden (chapter 6): Count, Stream from the first byte. Data that are hidden (chapter 6): Xor's closures. Data that are hidden (chapter 6): Xor. Blocks of the data (chapter 12): what a cell is; Check of one that may be. Blocks of the data (chapter 12): the bytes of a cell, and of a held text. No program in sight. A cell's bytes, a held text's bytes (chapter 12): Put, Hold. -/
import Derived.Test.YtppdboadjefieaaGreatQ19
import Derived.Test.YtppdboadjefieaaGreatQ7
import Derived.OrdersHeld
import Derived.Carry
import Derived.Test.YtppdboadjefieaaGreatQ12
import Derived.Test.YtppdboadjefieaaGreatQ9
set_option linter.unusedSimpArgs false
set_option linter.unusedVariables false
namespace Go.Proofs.YtppdboadjefieaaGreat
open Go Go.RowKit
set_option maxRecDepth 100000

def countL (e s i : Nat) : List UInt8 := packL [1, 3, 4, 4, 4] [117, 0, (e : Int), (s : Int), (i : Int)]
theorem countL_length (e s i : Nat) : (countL e s i).length = 16 := by simp [countL, packL, beBytes_length]
def streamTo (W : List UInt8) (e s : Nat) (m : Nat) : List UInt8 := (List.range m).flatMap fun i => encTo W (countL e s i) 10
theorem streamTo_succ (W : List UInt8) (e s m : Nat) : streamTo W e s (m + 1) = streamTo W e s m ++ encTo W (countL e s m) 10 := by simp [streamTo, List.range_succ]
theorem streamTo_length (W : List UInt8) (e s : Nat) : ∀ m, (streamTo W e s m).length = 16 * m
  | 0 => rfl
  | m + 1 => by rw [streamTo_succ, List.length_append, streamTo_length W e s m, encTo_length]; omega
def streamL (key : List UInt8) (e s n : Nat) : List UInt8 := (streamTo (expL key) e s ((n + 15) / 16)).take n
theorem streamL_length (key : List UInt8) (e s n : Nat) : (streamL key e s n).length = n := by unfold streamL; rw [List.length_take, streamTo_length]; omega
theorem countOk (e s i : Nat) (he : e < 4294967296) (hs : s < 4294967296) (hi : i < 4294967296) : PackOk [1, 3, 4, 4, 4] [117, 0, (e : Int), (s : Int), (i : Int)] := ⟨rfl, fun j a x ha hx => by
  rcases j with _ | _ | _ | _ | _ | j
  · simp at ha hx; subst ha hx; decide
  · simp at ha hx; subst ha hx; decide
  · simp at ha hx; subst ha hx; simp; omega
  · simp at ha hx; subst ha hx; simp; omega
  · simp at ha hx; subst ha hx; simp; omega
  · simp at ha⟩
theorem infoInt6 : (Tryz.prog.info? 3).map (fun i => (i.zero, i.size, i.bytes)) = some (some (.int .i64 0), 1, 8) := by kernel_rfl
set_option maxHeartbeats 1000000 in
theorem count_walk (e s i : Nat) (w : World) (he : e < 4294967296) (hs : s < 4294967296) (hi : i < 4294967296) :
    Calls Tryz.prog 301 #[.int .i64 (e : Int), .int .i64 (s : Int), .int .i64 (i : Int)] w fun x w' => (∃ r, x = .returned (.tuple #[.string r, .int .i64 0]) ∧ Txt r (countL e s i)) ∧ Below w.heap.size w w' := by
  go_enter Tryz.func301, Tryz.ntmps301
  go_wp2_with (first
    | ((with_reducible refine wpList_slice_new 58 3 5 ?parts8 [.int .i64 1, .int .i64 3, .int .i64 4, .int .i64 4, .int .i64 4] (.int .i64 0) 1 8 (some 8) Tryz.underlying58 infoInt6 (by omega) (by omega) ?hgd ?ho ?hd ?hf ?_); (case hgd | ho | hd => rfl); (case hf => kernel_rfl); (intro g1 w1 l1 B1 e1 z1))
    | ((with_reducible refine wpList_slice_new 58 3 5 ?parts12 [.int .i64 117, .int .i64 0, .int .i64 (e : Int), .int .i64 (s : Int), .int .i64 (i : Int)] (.int .i64 0) 1 8 (some 12) Tryz.underlying58 infoInt6 (by omega) (by omega) ?hgd ?ho ?hd ?hf ?_); (case hgd | ho | hd => rfl); (case hf => kernel_rfl); (intro g2 w2 l2 B2 e2 z2))
    | fail)
  have hb2 : Below w.heap.size w w2 := (e1.mono l1).trans (e2.mono (by omega))
  refine (opack_walk _ _ [1, 3, 4, 4, 4] [117, 0, (e : Int), (s : Int), (i : Int)] _ (IntRow.blk (xs := [1, 3, 4, 4, 4]) (B1.below e2 (by omega)) rfl 5) (IntRow.blk (xs := [117, 0, (e : Int), (s : Int), (i : Int)]) B2 rfl 5) (by simp) (by simp) (countOk e s i he hs hi)).mono ?_
  rintro x w3 ⟨r, rfl, tr, hb3⟩
  have HBE := Lib.hid (hb2.trans (hb3.mono hb2.size))
  have HTR := Lib.hid tr
  clear B1 B2 e1 e2 hb2 hb3 tr
  go_wp2_with fail
  go_ret2
  exact ⟨⟨r, rfl, HTR.out⟩, HBE.out⟩
structure WordsOf (key W : List UInt8) : Prop where
  e : expL key = W
  l : W.length = 176
structure Ep (e s : Nat) : Prop where
  e : e < 4294967296
  s : s < 4294967296
set_option maxHeartbeats 4000000 in
theorem stream_walk (key : ByteArray) (e s n : Nat) (w : World) (hk : key.size = 16) (he : e < 4294967296) (hs : s < 4294967296) (hn : n ≤ 4096) :
    Calls Tryz.prog 210 #[.string key, .int .i64 (e : Int), .int .i64 (s : Int), .int .i64 0, .int .i64 (n : Int)] w fun x w' => (∃ r, x = .returned (.tuple #[.string r, .int .i64 0]) ∧ Txt r (streamL key.data.toList e s n)) ∧ Below w.heap.size w w' := by
  have hks : (key.size : Int) = 16 := by omega
  obtain ⟨m, HM⟩ : ∃ m, Hid (m = (n + 15) / 16) := ⟨_, (rfl : (n + 15) / 16 = (n + 15) / 16)⟩
  obtain ⟨ni, HNI⟩ : ∃ ni : Int, Hid (ni = (n : Int)) := ⟨_, (rfl : (n : Int) = (n : Int))⟩
  have hn0 : 0 ≤ ni := by have := HNI.out; omega
  have hn1 : ni ≤ 4096 := by have := HNI.out; omega
  rw [← HNI.out]
  have HMB := Lib.hid (show m ≤ 4096 by have := HM.out; omega)
  have HK := Lib.hid hk
  have HES : Ep e s := ⟨he, hs⟩
  obtain ⟨W, HKW⟩ : ∃ W, WordsOf key.data.toList W := ⟨_, rfl, expL_length _⟩
  have HC0 := Lib.hid (fun (wx : World) => (show Calls Tryz.prog 301 #[.int .i64 (e : Int), .int .i64 (s : Int), .int .i64 0] wx fun x w' => (∃ r, x = .returned (.tuple #[.string r, .int .i64 0]) ∧ Txt r (countL e s 0)) ∧ Below wx.heap.size wx w' from count_walk e s 0 wx he hs (by decide)))
  have HNN := Lib.hid hn
  clear hk he hs hn
  go_enter Tryz.func210, Tryz.ntmps210
  go_wp2_with (first
    | ((with_reducible refine wpList_alloc_new 198 _ zeroBuilder (some 12) ?hgd ?ho ?hd ?_); (case hgd | ho | hd => rfl); (intro b w1 l1 B1 e1 z1))
    | fail)
  have HL := Lib.hid l1
  have HB1 := Lib.hid (BldK.of (Bld.new B1))
  have HBL1 := Lib.hid z1
  have HBE1 := Lib.hid (e1.mono l1)
  clear B1 e1 z1 l1
  refine (HC0.out _).mono ?_
  rintro x w2 ⟨⟨c0, rfl, _⟩, hb2⟩
  have HB2 := Lib.hid (HB1.out.below hb2)
  have HBL2 := Lib.hid (Nat.lt_of_lt_of_le HBL1.out hb2.size)
  have HBE2 := Lib.hid (HBE1.out.trans (hb2.mono HBE1.out.size))
  clear hb2
  go_wp2_with fail
  refine (aesNew_walk key _ HK.out).mono ?_
  rintro x w3 ⟨⟨cb, rfl, hC, hl3⟩, hb3⟩
  rw [HKW.e] at hC
  have HC3 := Lib.hid hC
  have HB3 := Lib.hid (HB2.out.below hb3)
  have HBL3 := Lib.hid (show b < w3.heap.size ∧ b < cb from ⟨Nat.lt_of_lt_of_le HBL2.out hb3.size, Nat.lt_of_lt_of_le HBL2.out hl3⟩)
  have HBE3 := Lib.hid (HBE2.out.trans (hb3.mono HBE2.out.size))
  clear hC hl3 hb3
  have hm : (ni + 16 - 1) / 16 = (m : Int) := by have := HM.out; have := HNI.out; omega
  have hm' : (ni + 15) / 16 = (m : Int) := by have := HM.out; have := HNI.out; omega
  go_wp2_with fail
  (try rw [hm])
  go_loopw [70] (fun i wr => ∃ k : Nat, k ≤ m ∧ i = .int .i64 k ∧ BldK wr b (streamTo W e s k) ∧ Blk wr cb (cipherCells W) 422 ∧ b < wr.heap.size ∧ Below w.heap.size w wr) (fun i _ => m - (intOf i).toNat)
  case atStart => exact ⟨0, Nat.zero_le _, rfl, HB3.out, HC3.out, HBL3.out.1, HBE3.out⟩
  case round =>
    obtain ⟨k, hkm, rfl, hB, hC, hbl, hbe⟩ := hrel
    have HB := Lib.hid hB
    have HC := Lib.hid hC
    have HBL := Lib.hid hbl
    have HBE := Lib.hid hbe
    clear hB hC hbl hbe
    by_cases hlt : k < m
    · have hlt' : (k : Int) < (m : Int) := by omega
      have hkb : k ≤ 4096 := by have := HMB.out; omega
      go_wp2_with fail
      refine (count_walk e s k _ HES.e HES.s (by omega)).mono ?_
      rintro x wa ⟨⟨c, rfl, tc⟩, hba⟩
      have HTC := Lib.hid tc
      have HBa := Lib.hid (HB.out.below hba)
      have HCa := Lib.hid (HC.out.below hba HC.out.lt)
      have HBLa := Lib.hid (Nat.lt_of_lt_of_le HBL.out hba.size)
      have HBEa := Lib.hid (HBE.out.trans (hba.mono HBE.out.size))
      clear tc hba
      go_wp2_with fail
      refine (encrypt_walk cb W c _ HCa.out HKW.l (by rw [HTC.out.size, countL_length])).mono ?_
      rintro x wb ⟨⟨r, rfl, tr⟩, hbb⟩
      have HTR := Lib.hid (show Txt r (encTo W (countL e s k) 10) from by rw [← (show c.data.toList = countL e s k from HTC.out)]; exact tr)
      have HBb := Lib.hid (HBa.out.below hbb)
      have HCb := Lib.hid (HCa.out.below hbb HCa.out.lt)
      have HBLb := Lib.hid (Nat.lt_of_lt_of_le HBLa.out hbb.size)
      have HBEb := Lib.hid (HBEa.out.trans (hbb.mono HBEa.out.size))
      clear tr hbb
      go_wp2_with fail
      refine (bldk_writeString b _ r _ HBb.out (by rw [streamTo_length, HTR.out.size, encTo_length]; omega) (Nat.le_of_lt HBLb.out)).mono ?_
      rintro x wc ⟨rfl, hBc, hbc, hkc⟩
      have HBc := Lib.hid (show BldK wc b (streamTo W e s (k + 1)) from by rw [streamTo_succ, ← (show r.data.toList = _ from HTR.out)]; exact hBc)
      have HCc := Lib.hid (kept_blk hkc HCb.out (by have := HBL3.out; omega) (by decide))
      have HBLc := Lib.hid (Nat.lt_of_lt_of_le HBLb.out hbc.size)
      have HBEc := Lib.hid (HBEb.out.trans (hbc.mono HL.out))
      clear hBc hbc hkc
      go_wp2_with fail
      go_roundw
      case rel => exact ⟨k + 1, by omega, by go_num, HBc.out, HCc.out, HBLc.out, HBEc.out⟩
      case measure => simp [intOf]; omega
    · obtain rfl : k = m := by omega
      go_wp2_with fail
      refine (bldk_string b _ _ HB.out (Nat.le_of_lt HBL.out)).mono ?_
      rintro x wd ⟨rfl, hbd⟩
      have HBEd := Lib.hid (HBE.out.trans (hbd.mono HL.out))
      clear hbd
      obtain ⟨all, HALL⟩ : ∃ a : ByteArray, Hid (a = ⟨(streamTo W e s k).toArray⟩) := ⟨_, rfl⟩
      rw [← HALL.out]
      have HTA := Lib.hid (show Txt all (streamTo W e s k) from by rw [HALL.out]; exact Txt.mk _)
      have hsz : (ni : Int) ≤ (all.size : Int) := by rw [HTA.out.size, streamTo_length]; have := HM.out; have := HNI.out; omega
      by_cases h0 : ni = 0
      · obtain rfl := h0
        go_wp2_with fail
        go_ret2
        have hn0' : n = 0 := by have := HNI.out; omega
        exact ⟨⟨_, rfl, by subst hn0'; rfl⟩, HBEd.out⟩
      · have h0' : (ni == 0) = false := beq_eq_false_iff_ne.2 h0
        go_wp2_with fail
        go_ret2
        refine ⟨⟨_, rfl, ?_⟩, HBEd.out⟩
        have hni : ni.toNat = n := by have := HNI.out; omega
        have ht := HTA.out.extract 0 n
        rw [List.drop_zero] at ht
        unfold streamL
        rw [HKW.e, ← HM.out]
        first | exact ht | (rw [hni]; exact ht) | (simp only [hni]; exact ht)
end Go.Proofs.YtppdboadjefieaaGreat

namespace Go.Proofs.YtppdboadjefieaaGreat
open Go Go.RowKit
set_option maxRecDepth 100000

def xorL (a s : List UInt8) : List UInt8 := (List.range a.length).map fun i => a.getD i 0 ^^^ s.getD i 0
theorem xorL_length (a s : List UInt8) : (xorL a s).length = a.length := by simp [xorL]
theorem xorL_eq (a s : List UInt8) : stepTo (fun i => a.getD i 0 ^^^ s.getD i 0) a a.length = xorL a s := stepTo_all _ _ _ rfl
theorem xorL_back (a s : List UInt8) : xorL (xorL a s) s = a := by
  apply List.ext_getElem?
  intro j
  by_cases hj : j < a.length
  · have h1 : (xorL a s).getD j 0 = a.getD j 0 ^^^ s.getD j 0 := by
      unfold xorL; rw [List.getD, List.getElem?_map, List.getElem?_range hj]; rfl
    have h2 : (xorL (xorL a s) s)[j]? = some ((xorL a s).getD j 0 ^^^ s.getD j 0) := by
      rw [show xorL (xorL a s) s = (List.range (xorL a s).length).map fun i => (xorL a s).getD i 0 ^^^ s.getD i 0 from rfl, xorL_length, List.getElem?_map, List.getElem?_range hj]; rfl
    rw [h2, h1, UInt8.xor_assoc, UInt8.xor_self, UInt8.xor_zero, List.getD, List.getElem?_eq_getElem hj]
    rfl
  · rw [List.getElem?_eq_none (by rw [xorL_length, xorL_length]; omega), List.getElem?_eq_none (by omega)]
theorem xor2_walk (a s : ByteArray) (b1 b2 : Nat) (k : Nat) (hk : k < a.size) (hk2 : k < s.size) (w : World) (ha : Blk w b1 [.string a] 9) (hb : Blk w b2 [.string s] 9) :
    Calls Tryz.prog 212 #[.int .i64 (k : Int), .pointer (some ⟨b1, 0, none⟩), .pointer (some ⟨b2, 0, none⟩)] w fun e w' => e = .returned (.int .u8 (((a.data.toList.getD k 0 ^^^ s.data.toList.getD k 0).toNat : Nat) : Int)) ∧ w' = w.drew := by
  have c0 := ha.cell (i := 0) rfl
  have c1 := hb.cell (i := 0) rfl
  have h0 : (0 : Int) ≤ (k : Int) := by omega
  have h1 : (k : Int) < a.size := by omega
  have h2 : (k : Int) < s.size := by omega
  have hga : a.data.toList.getD k 0 = a[k] := by
    have hk2 : k < a.data.toList.length := hk
    rw [List.getD, List.getElem?_eq_getElem hk2]
    rfl
  have hgs : s.data.toList.getD k 0 = s[k] := by
    have hk2 : k < s.data.toList.length := hk2
    rw [List.getD, List.getElem?_eq_getElem hk2]
    rfl
  have hf : Hid (bits BinOp.xor IntKind.u8 ((a[k].toNat : Nat) : Int) ((s[k].toNat : Nat) : Int) = (((a[k] ^^^ s[k]).toNat : Nat) : Int)) := xor_u8 _ _
  go_enter Tryz.func212, Tryz.ntmps212
  go_wp2_with fail
  refine wp_region_still_drew (by kernel_rfl) (by kernel_rfl) ?_
  iterate 8 still_step
  refine wpStill_nil ?_
  go_wp2_with fail
  go_ret
  refine ⟨?_, rfl⟩
  rw [hga, hgs, ← hf.out]
  rfl
end Go.Proofs.YtppdboadjefieaaGreat

namespace Go.Proofs.YtppdboadjefieaaGreat
open Go Go.RowKit
set_option maxRecDepth 100000

set_option maxHeartbeats 4000000 in
theorem xor1_walk (bv b1 b2 g cap n : Nat) (a s : ByteArray) (z : List Value) (w : World) (hn : a.size = n) (hs : n ≤ s.size) (hn64 : n ≤ 65536) (hv : w.cell? ⟨bv, 0, none⟩ = some (.slice (some ⟨g, 0, none⟩) n cap)) (ha : Blk w b1 [.string a] 9) (hb : Blk w b2 [.string s] 9)
    (hr : Row w g (bytesV a.data.toList ++ z) 5) (hgv : g ≠ bv) (hg1 : g ≠ b1) (hg2 : g ≠ b2) (hbl : bv < w.heap.size) :
    Calls Tryz.prog 211 #[.func (.func 212) #[] #[.pointer (some ⟨b1, 0, none⟩), .pointer (some ⟨b2, 0, none⟩)], .pointer (some ⟨bv, 0, none⟩)] w fun e w' => e = .returned (.tuple #[]) ∧ Row w' g (bytesV (xorL a.data.toList s.data.toList) ++ z) 5 ∧ Kept g w w' := by
  obtain ⟨f, hf⟩ : ∃ f : Nat → UInt8, f = fun i => a.data.toList.getD i 0 ^^^ s.data.toList.getD i 0 := ⟨_, rfl⟩
  have hal : a.data.toList.length = n := hn
  have HF := Lib.hid hf
  have HN := Lib.hid (And.intro hn hs)
  have HAL := Lib.hid hal
  have HR0 := Lib.hid hr
  have HA0 := Lib.hid ha
  have HB0 := Lib.hid hb
  have HBL := Lib.hid hbl
  have HNE := Lib.hid (And.intro hgv (And.intro hg1 hg2))
  clear hf hn hs hal hr ha hb hgv hg1 hg2 hbl
  go_enter Tryz.func211, Tryz.ntmps211
  go_wp2_with fail
  have HV0 := Lib.hid hv
  clear hv
  go_loopw [6] (fun i wr => ∃ k : Nat, k ≤ n ∧ i = .int .i64 k ∧ Row wr g (bytesV (stepTo f a.data.toList k) ++ z) 5 ∧ Kept g w wr) (fun i _ => n - (intOf i).toNat)
  case atStart => exact ⟨0, Nat.zero_le _, rfl, by rw [stepTo_zero]; exact HR0.out, Kept.refl _ _⟩
  case round =>
    obtain ⟨k, hk, rfl, hr, hkp⟩ := hrel
    have HR := Lib.hid hr
    have HKP := Lib.hid hkp
    have HA := Lib.hid (hkp.blk HA0.out (by exact fun e => HNE.out.2.1 e.symm))
    have HB := Lib.hid (hkp.blk HB0.out (by exact fun e => HNE.out.2.2 e.symm))
    have hv : wr.cell? ⟨bv, 0, none⟩ = some (.slice (some ⟨g, 0, none⟩) n cap) := by
      rw [← HV0.out]
      have hl : bv < w.heap.size := HBL.out
      simp only [World.cell?, hkp.block bv hl (fun e => HNE.out.1 e.symm)]
    clear hr hkp
    by_cases hlt : k < n
    · have hlt' : (k : Int) < (n : Int) := by omega
      have hk64 : (k : Int) ≤ 65536 := by omega
      obtain ⟨u, HU⟩ : ∃ u : UInt8, Hid (f k = u) := ⟨_, (rfl : f k = f k)⟩
      have HX : Hid (∀ wx, Blk wx b1 [.string a] 9 → Blk wx b2 [.string s] 9 → Calls Tryz.prog 212 #[.int .i64 (k : Int), .pointer (some ⟨b1, 0, none⟩), .pointer (some ⟨b2, 0, none⟩)] wx fun e w' => e = .returned (.int .u8 ((u.toNat : Nat) : Int)) ∧ w' = wx.drew) := Lib.hid (fun wx ha hb => by
        have h := xor2_walk a s b1 b2 k (by have := HN.out; omega) (by have := HN.out; omega) wx ha hb
        rw [← HU.out, HF.out]
        exact h)
      go_wp2_with fail
      refine wp_region_held_drew (S := fun wx => wx.cell? ⟨bv, 0, none⟩ = some (.slice (some ⟨g, 0, none⟩) n cap)) (by kernel_rfl) (hv) (fun hHeld => ?_)
      refine wpAnyH_take (i := 0) (v := ?_) rfl (by kernel_rfl) (by kernel_rfl) (by kernel_rfl) (fun _ _ _ h => h) (Or.inl ⟨by rfl, ?_⟩) (by assumption) ?_
      rotate_left
      · intro w hSw; (try dsimp only at hSw); go_simp; first | done | with_reducible rfl
      (try simp only [Act.put, Array.getInternal_eq_getElem, List.getElem_toArray, List.getElem_cons_succ, List.getElem_cons_zero, List.setIfInBounds_toArray, List.set_cons_zero, List.set_cons_succ])
      refine wpAnyH_take (i := 1) (v := ?_) rfl (by kernel_rfl) (by kernel_rfl) (by kernel_rfl) (fun _ _ _ h => h) (Or.inl ⟨by rfl, ?_⟩) (by assumption) ?_
      rotate_left
      · intro w hSw; (try dsimp only at hSw); go_simp; first | done | with_reducible rfl
      (try simp only [Act.put, Array.getInternal_eq_getElem, List.getElem_toArray, List.getElem_cons_succ, List.getElem_cons_zero, List.setIfInBounds_toArray, List.set_cons_zero, List.set_cons_succ])
      refine wpAnyH_take (i := 2) (v := ?_) rfl (by kernel_rfl) (by kernel_rfl) (by kernel_rfl) (fun _ _ _ h => h) (Or.inl ⟨by rfl, ?_⟩) (by assumption) ?_
      rotate_left
      · intro w hSw; (try dsimp only at hSw); go_simp; first | done | with_reducible rfl
      (try simp only [Act.put, Array.getInternal_eq_getElem, List.getElem_toArray, List.getElem_cons_succ, List.getElem_cons_zero, List.setIfInBounds_toArray, List.set_cons_zero, List.set_cons_succ])
      refine wpAnyH_take (i := 3) (v := ?_) rfl (by kernel_rfl) (by kernel_rfl) (by kernel_rfl) (fun _ _ _ h => h) (Or.inl ⟨by rfl, ?_⟩) (by assumption) ?_
      rotate_left
      · intro w hSw; (try dsimp only at hSw); go_simp; first | done | with_reducible rfl
      (try simp only [Act.put, Array.getInternal_eq_getElem, List.getElem_toArray, List.getElem_cons_succ, List.getElem_cons_zero, List.setIfInBounds_toArray, List.set_cons_zero, List.set_cons_succ])
      refine wpAnyH_ready (rs := [4]) (by kernel_rfl) (by simp) ?_
      refine AllReadyH.cons rfl (fun K hK => ?_) AllReadyH.nil
      go_simp
      refine (HX.out _ HA.out.drew HB.out.drew).mono ?_
      rintro e w' ⟨rfl, rfl⟩
      (try go_wp2_with fail)
      refine hK.out _ _ (hv) (fun hHeld2 => ?_)
      clear hK K hHeld
      have hHeld := hHeld2
      clear hHeld2
      (try simp only [Act.put, Array.getInternal_eq_getElem, List.getElem_toArray, List.getElem_cons_succ, List.getElem_cons_zero, List.setIfInBounds_toArray, List.set_cons_zero, List.set_cons_succ])
      have hki : (k : Int) < (n : Int) := hlt'
      refine wpAnyH_take (i := 5) (v := ?_) rfl (by kernel_rfl) (by kernel_rfl) (by kernel_rfl) (fun _ _ _ h => h) (Or.inl ⟨by rfl, ?_⟩) (by assumption) ?_
      rotate_left
      · intro w hSw; (try dsimp only at hSw); go_simp; first | done | with_reducible rfl
      (try simp only [Act.put, Array.getInternal_eq_getElem, List.getElem_toArray, List.getElem_cons_succ, List.getElem_cons_zero, List.setIfInBounds_toArray, List.set_cons_zero, List.set_cons_succ])
      have hsl : (stepTo f a.data.toList k).length = n := by rw [stepTo_length _ _ _ (by rw [HAL.out]; exact hk)]; exact HAL.out
      have hck : (wr.drew.drew).cell? ⟨g, k, none⟩ = some (.int .u8 ((((stepTo f a.data.toList k)[k]'(by omega)).toNat : Nat) : Int)) := by
        refine HR.out.drew.drew.cell ?_
        rw [List.getElem?_append_left (by rw [bytesV_length]; omega), bytesV_at _ _ (by omega)]
      have hcf : (wr.drew.drew).frozen? ⟨g, k, none⟩ = false := HR.out.drew.drew.free (by rw [List.length_append, bytesV_length]; omega)
      obtain ⟨c, hcx⟩ : ∃ c : UInt8, c = (stepTo f a.data.toList k)[k]'(by omega) := ⟨_, rfl⟩
      rw [← hcx] at hck
      clear hcx
      refine wpAnyH_ready (rs := [6]) (by kernel_rfl) (by simp) ?_
      refine AllReadyH.cons rfl (fun K hK => ?_) AllReadyH.nil
      go_simp
      refine hK.out _ _ (by rw [← hv]; exact World.cell?_setCell_other _ _ _ _ (by intro e; injection e with e1; exact HNE.out.1 e1)) (fun hHeld2 => ?_)
      (try simp only [Act.put, Array.getInternal_eq_getElem, List.getElem_toArray, List.getElem_cons_succ, List.getElem_cons_zero, List.setIfInBounds_toArray, List.set_cons_zero, List.set_cons_succ])
      refine wpAnyH_done (by kernel_rfl) ?_ _
      go_wp2_with fail
      go_roundw
      case rel =>
        refine ⟨k + 1, by omega, by go_num, ?_, (HKP.out.drew.drew.setCell _ _)⟩
        refine (HR.out.drew.drew.set k _).ext ?_
        rw [List.set_append_left _ _ (by rw [bytesV_length]; omega), bytesV_set]
        have hst := stepTo_set f a.data.toList k (by rw [HAL.out]; exact hlt)
        rw [← hst, HU.out]
      case measure => simp [intOf]; omega
    · obtain rfl : k = n := by omega
      go_wp2_with fail
      go_end0
      refine ⟨rfl, HR.out.ext ?_, HKP.out⟩
      rw [HF.out, ← HAL.out, xorL_eq]
theorem zeroBytes6 (w : World) : Sem.run Tryz.prog (zeroValue 121) w = .ok (.slice none 0 0) w := by kernel_rfl
theorem zeroStr6 (w : World) : Sem.run Tryz.prog (zeroValue 9) w = .ok (.string ⟨#[]⟩) w := by kernel_rfl
set_option maxHeartbeats 4000000 in
theorem ctrXor_walk (key a : ByteArray) (e s : Nat) (w : World) (hk : key.size = 16) (he : e < 4294967296) (hs : s < 4294967296) (hn : a.size ≤ 4096) :
    Calls Tryz.prog 121 #[.string key, .int .i64 (e : Int), .int .i64 (s : Int), .string a] w fun x w' => (∃ r, x = .returned (.tuple #[.string r, .int .i64 0]) ∧ Txt r (xorL a.data.toList (streamL key.data.toList e s a.size))) ∧ Below w.heap.size w w' := by
  have hmf : ∀ (fn : Fn) (first cap : Array Value) (w : World), (Instr.makeFunc fn first cap).run Tryz.prog w = .ok (.func fn first cap) w := fun _ _ _ _ => rfl
  obtain ⟨n, Hn⟩ : ∃ n, Hid (a.size = n) := ⟨_, (rfl : a.size = a.size)⟩
  have han : (a.size : Int) = (n : Int) := by have := Hn.out; omega
  have hnb : (n : Int) ≤ 4096 := by omega
  have HST := Lib.hid (fun (wx : World) => stream_walk key e s n wx hk he hs (by omega))
  have HNB := Lib.hid (show n ≤ 4096 by omega)
  clear hk he hs hn
  rw [Hn.out]
  go_enter Tryz.func121, Tryz.ntmps121
  go_wp2_with (first
    | ((with_reducible refine wpList_box_one 9 (.tmp 3) (.string a) rfl (some 7) ?hgd ?ho ?hd ?hx ?_); (case hgd | ho | hd | hx => rfl); (intro b1 w1 l1 B1 e1 z1; have q0 := B1.cell (i := 0) rfl))
    | fail)
  have HB1 := Lib.hid B1
  have HBE1 := Lib.hid (e1.mono l1)
  have HL1 := Lib.hid l1
  clear B1 e1 z1 l1
  (try rw [han])
  refine (HST.out _).mono ?_
  rintro x w2 ⟨⟨st, rfl, ts⟩, hb2⟩
  have HTS := Lib.hid ts
  have HB2 := Lib.hid (HB1.out.below hb2 HB1.out.lt)
  have HBE2 := Lib.hid (HBE1.out.trans (hb2.mono HBE1.out.size))
  have q0' := HB2.out.cell (i := 0) rfl
  clear hb2 ts q0
  go_upto_region 6 with (first
    | ((with_reducible refine wpList_alloc_one 9 (.string ⟨#[]⟩) zeroStr6 rfl (some 10) ?hgd ?ho ?hd ?_); (case hgd | ho | hd => rfl); (intro b2 w3 l3 B3 e3 z3; have HB3 := Lib.hid (HB2.out.below e3 (Nat.lt_of_lt_of_le HB2.out.lt l3)); have c3 : w3.cell? ⟨b2, 0, none⟩ = some (.string ⟨#[]⟩) := B3.cell rfl; have f3 : w3.frozen? ⟨b2, 0, none⟩ = false := B3.free 0))
    | fail)
  have hne : b1 ≠ b2 := by have := HB2.out.lt; omega
  have HNE := Lib.hid hne
  obtain ⟨w4, hw4⟩ : ∃ w4, w3.setCell ⟨b2, 0, none⟩ (.string st) = w4 := ⟨_, rfl⟩
  have HB4 := Lib.hid (show Blk w4 b1 [.string a] 9 from by rw [← hw4]; exact HB3.out.set_other (by show b1 ≠ b2; exact hne) _)
  have HS4 := Lib.hid (show Blk w4 b2 [.string st] 9 from by rw [← hw4]; exact (B3.set 0 _).ext rfl)
  have HBE4 := Lib.hid (show Below w.heap.size w w4 from by rw [← hw4]; exact (HBE2.out.trans (e3.mono (Nat.le_trans HBE2.out.size l3))).setCell (p := ⟨b2, 0, none⟩) (Nat.le_trans HBE2.out.size l3) _)
  have HL2 := Lib.hid (show w.heap.size ≤ b2 from Nat.le_trans HBE2.out.size l3)
  rw [hw4]
  clear hw4 q0' B3 e3 z3 l3 c3 f3 hne
  have q0 := HB4.out.cell (i := 0) rfl
  go_upto_region 7 with (first
    | ((with_reducible refine wpList_bytes_of 9 121 5 (.tmp 29) a (some 30) Tryz.underlying9 Tryz.underlying121 Tryz.underlying5 ?hgd ?ho ?hd ?hx ?_); (case hgd | ho | hd | hx => rfl); (intro g cap z w5 l5 B5 e5 z5 hcap); (rw [Hn.out]))
    | ((with_reducible refine wpList_alloc_one 121 (.slice none 0 0) zeroBytes6 rfl (some 12) ?hgd ?ho ?hd ?_); (case hgd | ho | hd => rfl); (intro bv w6 l6 B6 e6 z6); (have cv : w6.cell? ⟨bv, 0, none⟩ = some (.slice none 0 0) := B6.cell rfl); (have fv : w6.frozen? ⟨bv, 0, none⟩ = false := B6.free 0))
    | fail)
  have b1l := HB4.out.lt
  have b2l := HS4.out.lt
  have hbe6 := (HBE4.out.trans (e5.mono (Nat.le_trans HBE4.out.size l5))).trans (e6.mono (Nat.le_trans (Nat.le_trans HBE4.out.size l5) (by omega)))
  obtain ⟨w7, hw7⟩ : ∃ w7, w6.setCell ⟨bv, 0, none⟩ (.slice (some ⟨g, 0, none⟩) n cap) = w7 := ⟨_, rfl⟩
  have HG7 := Lib.hid (show Row w7 g (bytesV a.data.toList ++ z) 5 from by rw [← hw7]; exact (B5.below e6 (by omega)).set_other (by show g ≠ bv; omega) _)
  have HV7 := Lib.hid (show Blk w7 bv [.slice (some ⟨g, 0, none⟩) n cap] 121 from by rw [← hw7]; exact (B6.set 0 _).ext rfl)
  have HB7 := Lib.hid (show Blk w7 b1 [.string a] 9 from by rw [← hw7]; exact ((HB4.out.below e5 (by omega)).below e6 (by omega)).set_other (by show b1 ≠ bv; omega) _)
  have HS7 := Lib.hid (show Blk w7 b2 [.string st] 9 from by rw [← hw7]; exact ((HS4.out.below e5 (by omega)).below e6 (by omega)).set_other (by show b2 ≠ bv; omega) _)
  have HBE7 := Lib.hid (show Below w.heap.size w w7 from by rw [← hw7]; exact hbe6.setCell (p := ⟨bv, 0, none⟩) (by have := HBE4.out.size; show w.heap.size ≤ bv; omega) _)
  have HLN := Lib.hid (show w.heap.size ≤ g ∧ g ≠ bv ∧ g ≠ b1 ∧ g ≠ b2 from by have := HBE4.out.size; omega)
  rw [hw7]
  clear hw7 B5 B6 e5 e6 z5 z6 l5 l6 cv fv q0 hbe6 b1l b2l hcap
  go_wp2_with fail
  refine (xor1_walk bv b1 b2 g cap n a st z _ Hn.out (by rw [HTS.out.size, streamL_length]; exact Nat.le_refl _) (by have := HNB.out; omega) (HV7.out.cell (i := 0) rfl) HB7.out HS7.out HG7.out HLN.out.2.1 HLN.out.2.2.1 HLN.out.2.2.2 HV7.out.lt).mono ?_
  rintro x w8 ⟨rfl, R8, k8⟩
  have cv := (k8.blk HV7.out (fun e => HLN.out.2.1 e.symm)).cell (i := 0) rfl
  have HR8 := Lib.hid R8
  have HBE8 := Lib.hid (k8.below HBE7.out HLN.out.1 HBE7.out.size)
  have HXL := Lib.hid (show n = (xorL a.data.toList st.data.toList).length from by rw [xorL_length]; exact Hn.out.symm)
  clear R8 k8
  go_wp2_with (first
    | ((with_reducible refine wpList_string_bytes 121 9 5 (.tmp 35) (xorL a.data.toList st.data.toList) g 0 n cap (some 36) Tryz.underlying121 Tryz.underlying5 Tryz.underlying9 HR8.out.range HXL.out ?hgd ?ho ?hd ?hx ?_); (case hgd | ho | hd | hx => rfl))
    | fail)
  go_ret2
  refine ⟨⟨_, rfl, (Txt.mk _).cast ?_⟩, HBE8.out⟩
  rw [show st.data.toList = _ from HTS.out]
end Go.Proofs.YtppdboadjefieaaGreat

namespace Go.Proofs.YtppdboadjefieaaGreat
open Go Go.RowKit
set_option maxRecDepth 100000

structure CellD where
  epoch : Int
  slot : Int
  lba : Int
  gone : Bool
  cipher : ByteArray
def CellD.cells (c : CellD) : List Value := [.int .i64 c.epoch, .int .i64 c.slot, .int .i64 c.lba, .bool c.gone, .string c.cipher]
structure CellOk (c : CellD) : Prop where
  e0 : 0 ≤ c.epoch
  e1 : c.epoch ≤ 4294967295
  s0 : 0 ≤ c.slot
  s1 : c.slot ≤ 4294967295
  l0 : 0 ≤ c.lba
  l1 : c.lba ≤ 4095
  n : c.cipher.size ≤ 4000
  g : c.gone = true → c.cipher = ⟨#[]⟩
theorem cellMay_walk (n m : Int) (w : World) (h0 : 0 ≤ n) (h1 : n ≤ m) :
    Calls Tryz.prog 304 #[.int .i64 n, .int .i64 m] w fun e w' => e = .returned (.bool true) ∧ w = w' := by
  go_enter Tryz.func304, Tryz.ntmps304
  go_wp2_with fail
  go_ret
  first | exact ⟨rfl, rfl⟩ | exact ⟨ret_b (by simp; omega), rfl⟩ | exact ⟨ret_b (by simp), rfl⟩
theorem sizeCell {c : CellD} : (Tryz.prog.info? 158).map (·.size) = some c.cells.length := by kernel_rfl
set_option maxHeartbeats 1000000 in
theorem cellCheck12_walk (c : CellD) (w : World) (hc : CellOk c) (hg : c.gone = false) :
    Calls Tryz.prog 213 #[.agg c.cells.toArray] w fun e w' => e = .returned (.int .i64 0) ∧ Below w.heap.size w w' := by
  have hn : (c.cipher.size : Int) ≤ 4000 := by have := hc.n; omega
  have HC := Lib.hid hc
  have HG := Lib.hid hg
  clear hc hg
  go_enter Tryz.func213, Tryz.ntmps213
  go_wp2_with (first
    | ((with_reducible refine wpList_box_new 158 (.tmp 0) c.cells (some 1) ?hgd ?ho ?hd ?hx ?_); (case hgd | ho | hd | hx => rfl); (intro b1 w1 l1 B1 e1 z1; have q0 := B1.cell (i := 0) rfl; have q1 := B1.cell (i := 1) rfl; have q2 := B1.cell (i := 2) rfl; have q3 := B1.cell (i := 3) rfl; have q4 := B1.cell (i := 4) rfl; rw [HG.out] at q3))
    | fail)
  refine (cellMay_walk c.epoch 4294967295 _ HC.out.e0 HC.out.e1).mono ?_
  rintro e w' ⟨rfl, rfl⟩
  go_wp2_with fail
  refine (cellMay_walk c.slot 4294967295 _ HC.out.s0 HC.out.s1).mono ?_
  rintro e w' ⟨rfl, rfl⟩
  go_wp2_with fail
  refine (cellMay_walk c.lba 4095 _ HC.out.l0 HC.out.l1).mono ?_
  rintro e w' ⟨rfl, rfl⟩
  go_wp2_with fail
  go_ret
  exact ⟨rfl, e1.mono l1⟩
theorem cellWidths_walk (w : World) :
    Calls Tryz.prog 215 #[] w fun e w' => (∃ g, e = .returned (.slice (some ⟨g, 0, none⟩) 4 4) ∧ Blk w' g [.int .i64 1, .int .i64 4, .int .i64 4, .int .i64 4] 3 ∧ w.heap.size ≤ g) ∧ Below w.heap.size w w' := by
  have hi : (Tryz.prog.info? 3).map (fun i => (i.zero, i.size, i.bytes)) = some (some (.int .i64 0), 1, 8) := by kernel_rfl
  go_enter Tryz.func215, Tryz.ntmps215
  go_wp2_with (first
    | ((with_reducible refine wpList_slice_new 58 3 4 ?parts [.int .i64 1, .int .i64 4, .int .i64 4, .int .i64 4] (.int .i64 0) 1 8 (some 1) Tryz.underlying58 hi (by omega) (by omega) ?hgd ?ho ?hd ?hf ?_); (case hgd | ho | hd => rfl); (case hf => kernel_rfl); (intro g1 w1 l1 B1 e1 z1))
    | fail)
  go_ret
  exact ⟨⟨g1, rfl, B1, l1⟩, e1.mono l1⟩
end Go.Proofs.YtppdboadjefieaaGreat

namespace Go.Proofs.YtppdboadjefieaaGreat
open Go Go.RowKit
set_option maxRecDepth 100000

def cellKind (c : CellD) : Int := if c.gone = true then 2 else 1
def cellNums (c : CellD) : List Int := [cellKind c, c.epoch, c.slot, c.lba]
def cellHead (c : CellD) : List UInt8 := packL [1, 4, 4, 4] (cellNums c)
def cellL (c : CellD) : List UInt8 := fillL (cellHead c ++ textL c.cipher.data.toList) 4096
def holdL (s : List UInt8) : List UInt8 := fillL ([3] ++ textL s) 4096
theorem cellKind_is (c : CellD) : cellKind c = 1 ∨ cellKind c = 2 := by unfold cellKind; split <;> simp
theorem cellHead_length (c : CellD) : (cellHead c).length = 13 := by simp [cellHead, cellNums, packL, beBytes_length]
theorem cell_body (c : CellD) (h : c.cipher.size ≤ 4000) : (cellHead c ++ textL c.cipher.data.toList).length ≤ 4017 := by
  rw [List.length_append, cellHead_length, textL_length, show c.cipher.data.toList.length = c.cipher.size from rfl]; omega
theorem cellL_length (c : CellD) (h : c.cipher.size ≤ 4000) : (cellL c).length = 4096 := fillL_length (by have := cell_body c h; omega)
theorem holdL_length (s : List UInt8) (h : s.length ≤ 4000) : (holdL s).length = 4096 := fillL_length (by rw [List.length_append, textL_length]; simp; omega)
theorem cell_pack {c : CellD} (h : CellOk c) : PackOk [1, 4, 4, 4] (cellNums c) := by
  obtain ⟨e0, e1, s0, s1, l0, l1, _, _⟩ := h
  have hk := cellKind_is c
  refine ⟨rfl, fun i a x ha hx => ?_⟩
  rcases i with _ | _ | _ | _ | i
  · simp [cellNums] at ha hx; subst ha hx
    rcases hk with h | h <;> rw [h] <;> decide
  · simp [cellNums] at ha hx; subst ha hx; simp; omega
  · simp [cellNums] at ha hx; subst ha hx; simp; omega
  · simp [cellNums] at ha hx; subst ha hx; simp; omega
  · simp at ha
theorem cell_unpack {c : CellD} (h : CellOk c) : unpackS [1, 4, 4, 4] (cellHead c) = some (cellNums c) := by
  obtain ⟨e0, e1, s0, s1, l0, l1, _, _⟩ := h
  have p1 : (256 : Nat) ^ 1 = 256 := rfl
  have p4 : (256 : Nat) ^ 4 = 4294967296 := rfl
  have hk := cellKind_is c
  have e : cellHead c = beBytes 1 (cellKind c).toNat ++ (beBytes 4 c.epoch.toNat ++ (beBytes 4 c.slot.toNat ++ (beBytes 4 c.lba.toNat ++ []))) := by simp [cellHead, cellNums, packL]
  rw [e, unpackS_cons (by decide) (by decide) (by omega) (by omega), unpackS_cons (by decide) (by decide) (by omega) (by omega), unpackS_cons (by decide) (by decide) (by omega) (by omega), unpackS_cons (by decide) (by decide) (by omega) (by omega), unpackS_nil]
  simp only [Option.map_some, cellNums]
  rw [show (((cellKind c).toNat : Nat) : Int) = cellKind c by omega, show ((c.epoch.toNat : Nat) : Int) = c.epoch by omega, show ((c.slot.toNat : Nat) : Int) = c.slot by omega, show ((c.lba.toNat : Nat) : Int) = c.lba by omega]
theorem cellL_cut1 {block : ByteArray} {c : CellD} (ht : Txt block (cellL c)) : Txt (block.extract 0 13) (cellHead c) :=
  (ht.extract 0 13).cast (by unfold cellL fillL; rw [List.drop_zero, List.append_assoc, take_app (cellHead_length c)])
theorem cellL_cut2 {block : ByteArray} {c : CellD} (ht : Txt block (cellL c)) (h : c.cipher.size ≤ 4000) : ∃ z, Txt (block.extract 13 4096) (textL c.cipher.data.toList ++ z) := by
  have hl := cellL_length c h
  refine ⟨List.replicate (4096 - (cellHead c ++ textL c.cipher.data.toList).length) 0, (ht.extract 13 4096).cast ?_⟩
  rw [List.take_of_length_le (by rw [hl]; exact Nat.le_refl _)]
  unfold cellL fillL
  rw [List.append_assoc, drop_app (cellHead_length c)]
end Go.Proofs.YtppdboadjefieaaGreat

namespace Go.Proofs.YtppdboadjefieaaGreat
open Go Go.RowKit
set_option maxRecDepth 100000

theorem cellCheckOk_walk (c : CellD) (w : World) (hc : CellOk c) :
    Calls Tryz.prog 213 #[.agg c.cells.toArray] w fun e w' => e = .returned (.int .i64 0) ∧ Below w.heap.size w w' := by
  cases hg : c.gone with
  | false => exact cellCheck12_walk c w hc hg
  | true =>
    have hn0 : c.cipher = ⟨#[]⟩ := hc.g hg
    have HC := Lib.hid hc
    have HG := Lib.hid hg
    have HN := Lib.hid hn0
    clear hc hg hn0
    go_enter Tryz.func213, Tryz.ntmps213
    go_wp2_with (first
      | ((with_reducible refine wpList_box_new 158 (.tmp 0) c.cells (some 1) ?hgd ?ho ?hd ?hx ?_); (case hgd | ho | hd | hx => rfl); (intro b1 w1 l1 B1 e1 z1; have q0 := B1.cell (i := 0) rfl; have q1 := B1.cell (i := 1) rfl; have q2 := B1.cell (i := 2) rfl; have q3 := B1.cell (i := 3) rfl; have q4 := B1.cell (i := 4) rfl; rw [HG.out] at q3; rw [HN.out] at q4))
      | fail)
    refine (cellMay_walk c.epoch 4294967295 _ HC.out.e0 HC.out.e1).mono ?_
    rintro e w' ⟨rfl, rfl⟩
    go_wp2_with fail
    refine (cellMay_walk c.slot 4294967295 _ HC.out.s0 HC.out.s1).mono ?_
    rintro e w' ⟨rfl, rfl⟩
    go_wp2_with fail
    refine (cellMay_walk c.lba 4095 _ HC.out.l0 HC.out.l1).mono ?_
    rintro e w' ⟨rfl, rfl⟩
    go_wp2_with fail
    go_ret
    exact ⟨rfl, e1.mono l1⟩
set_option maxHeartbeats 4000000 in
theorem cellPut1_walk (c : CellD) (w : World) (hc : CellOk c) (hg : c.gone = false) :
    Calls Tryz.prog 122 #[.agg c.cells.toArray] w fun e w' => (∃ z, e = .returned (.tuple #[.string z, .int .i64 0]) ∧ Txt z (cellL c)) ∧ Below w.heap.size w w' := by
  have hk : cellKind c = 1 := by unfold cellKind; rw [hg]; rfl
  have HPK := Lib.hid (show PackOk [1, 4, 4, 4] [1, c.epoch, c.slot, c.lba] from by have h9 := cell_pack hc; unfold cellNums at h9; rw [hk] at h9; exact h9)
  have HPL := Lib.hid (show packL [1, 4, 4, 4] [1, c.epoch, c.slot, c.lba] = cellHead c from by unfold cellHead cellNums; rw [hk])
  have HC := Lib.hid hc
  clear hc hk
  have HG := Lib.hid hg
  clear hg
  go_enter Tryz.func122, Tryz.ntmps122
  go_wp2_with (first
    | ((with_reducible refine wpList_box_new 158 (.tmp 0) c.cells (some 1) ?hgd ?ho ?hd ?hx ?_); (case hgd | ho | hd | hx => rfl); (intro b1 w1 l1 B1 e1 z1))
    | ((with_reducible refine wpList_load_blk 158 (.tmp 1) b1 c.cells 158 _ B1 Tryz.underlying158 rfl sizeCell ?hgd ?ho ?hx ?_); (case hgd | ho | hx => rfl))
    | fail)
  refine (cellCheckOk_walk c _ HC.out).mono ?_
  rintro e w2 ⟨rfl, hb2⟩
  have HB2 := Lib.hid (B1.below hb2 z1)
  have HBE2 := Lib.hid ((e1.mono l1).trans (hb2.mono (Nat.le_trans l1 (Nat.le_of_lt z1))))
  clear hb2 B1 e1 l1 z1
  have q3 : w2.cell? ⟨b1, 3, none⟩ = some (.bool false) := by have := HB2.out.cell (i := 3) rfl; rw [HG.out] at this; exact this
  go_upto_region 7 with fail
  clear q3
  refine wp_region_held_drew (S := fun wx => wx.cell? ⟨b1, 0, none⟩ = some (.int .i64 c.epoch) ∧ wx.cell? ⟨b1, 1, none⟩ = some (.int .i64 c.slot) ∧ wx.cell? ⟨b1, 2, none⟩ = some (.int .i64 c.lba)) (by kernel_rfl) (⟨HB2.out.cell (i := 0) rfl, HB2.out.cell (i := 1) rfl, HB2.out.cell (i := 2) rfl⟩) (fun hHeld => ?_)
  obtain ⟨wd, hwd⟩ : ∃ wd, wd = w2.drew := ⟨_, rfl⟩
  have HBwd : Hid (Blk wd b1 c.cells 158) := Lib.hid (by rw [hwd]; exact HB2.out.drew)
  have HBEwd : Hid (Below w.heap.size w wd) := Lib.hid (by rw [hwd]; exact HBE2.out.drew)
  rw [← hwd]
  rw [← hwd] at hHeld
  clear hwd
  refine wpAnyH_take (i := 1) (v := ?_) rfl (by kernel_rfl) (by kernel_rfl) (by kernel_rfl) (fun _ _ _ h => h) (Or.inl ⟨by rfl, ?_⟩) (by assumption) ?_
  rotate_left
  · intro w hSw; (try dsimp only at hSw); go_simp; first | done | with_reducible rfl
  (try simp only [Act.put, Array.getInternal_eq_getElem, List.getElem_toArray, List.getElem_cons_succ, List.getElem_cons_zero, List.setIfInBounds_toArray, List.set_cons_zero, List.set_cons_succ])
  refine wpAnyH_take (i := 2) (v := ?_) rfl (by kernel_rfl) (by kernel_rfl) (by kernel_rfl) (fun _ _ _ h => h) (Or.inl ⟨by rfl, ?_⟩) (by assumption) ?_
  rotate_left
  · intro w hSw; (try dsimp only at hSw); go_simp; first | done | with_reducible rfl
  (try simp only [Act.put, Array.getInternal_eq_getElem, List.getElem_toArray, List.getElem_cons_succ, List.getElem_cons_zero, List.setIfInBounds_toArray, List.set_cons_zero, List.set_cons_succ])
  refine wpAnyH_take (i := 3) (v := ?_) rfl (by kernel_rfl) (by kernel_rfl) (by kernel_rfl) (fun _ _ _ h => h) (Or.inl ⟨by rfl, ?_⟩) (by assumption) ?_
  rotate_left
  · intro w hSw; (try dsimp only at hSw); go_simp; first | done | with_reducible rfl
  (try simp only [Act.put, Array.getInternal_eq_getElem, List.getElem_toArray, List.getElem_cons_succ, List.getElem_cons_zero, List.setIfInBounds_toArray, List.set_cons_zero, List.set_cons_succ])
  refine wpAnyH_take (i := 4) (v := ?_) rfl (by kernel_rfl) (by kernel_rfl) (by kernel_rfl) (fun _ _ _ h => h) (Or.inl ⟨by rfl, ?_⟩) (by assumption) ?_
  rotate_left
  · intro w hSw; (try dsimp only at hSw); go_simp; first | done | with_reducible rfl
  (try simp only [Act.put, Array.getInternal_eq_getElem, List.getElem_toArray, List.getElem_cons_succ, List.getElem_cons_zero, List.setIfInBounds_toArray, List.set_cons_zero, List.set_cons_succ])
  refine wpAnyH_take (i := 5) (v := ?_) rfl (by kernel_rfl) (by kernel_rfl) (by kernel_rfl) (fun _ _ _ h => h) (Or.inl ⟨by rfl, ?_⟩) (by assumption) ?_
  rotate_left
  · intro w hSw; (try dsimp only at hSw); go_simp; first | done | with_reducible rfl
  (try simp only [Act.put, Array.getInternal_eq_getElem, List.getElem_toArray, List.getElem_cons_succ, List.getElem_cons_zero, List.setIfInBounds_toArray, List.set_cons_zero, List.set_cons_succ])
  refine wpAnyH_take (i := 6) (v := ?_) rfl (by kernel_rfl) (by kernel_rfl) (by kernel_rfl) (fun _ _ _ h => h) (Or.inl ⟨by rfl, ?_⟩) (by assumption) ?_
  rotate_left
  · intro w hSw; (try dsimp only at hSw); go_simp; first | done | with_reducible rfl
  (try simp only [Act.put, Array.getInternal_eq_getElem, List.getElem_toArray, List.getElem_cons_succ, List.getElem_cons_zero, List.setIfInBounds_toArray, List.set_cons_zero, List.set_cons_succ])
  refine wpAnyH_take (i := 7) (v := ?_) rfl (by kernel_rfl) (by kernel_rfl) (by kernel_rfl) (fun _ _ _ h => h) (Or.inl ⟨by rfl, ?_⟩) (by assumption) ?_
  rotate_left
  · intro w hSw; (try dsimp only at hSw); go_simp; first | done | with_reducible rfl
  (try simp only [Act.put, Array.getInternal_eq_getElem, List.getElem_toArray, List.getElem_cons_succ, List.getElem_cons_zero, List.setIfInBounds_toArray, List.set_cons_zero, List.set_cons_succ])
  refine wpAnyH_ready (rs := [0, 8]) (by kernel_rfl) (by simp) ?_
  refine AllReadyH.cons rfl (fun K hK => ?_) (AllReadyH.cons rfl (fun K hK => ?_) AllReadyH.nil)
  · go_simp
    refine (cellWidths_walk _).mono ?_
    rintro e wa ⟨⟨gw, rfl, hvw, _⟩, hb3⟩
    have HBwa := Lib.hid (HBwd.out.below hb3 HBwd.out.lt)
    have HBEwa := Lib.hid (HBEwd.out.trans (hb3.mono HBEwd.out.size))
    have HVWwa := Lib.hid hvw
    skip
    clear hb3 hvw
    (try go_wp2_with fail)
    refine hK.out _ _ (⟨HBwa.out.cell (i := 0) rfl, HBwa.out.cell (i := 1) rfl, HBwa.out.cell (i := 2) rfl⟩) (fun hHeld2 => ?_)
    clear hK K hHeld
    have hHeld := hHeld2
    clear hHeld2
    (try simp only [Act.put, Array.getInternal_eq_getElem, List.getElem_toArray, List.getElem_cons_succ, List.getElem_cons_zero, List.setIfInBounds_toArray, List.set_cons_zero, List.set_cons_succ])
    refine wpAnyH_ready (rs := [8]) (by kernel_rfl) (by simp) ?_
    refine AllReadyH.cons rfl (fun K hK => ?_) AllReadyH.nil
    go_simp
    obtain ⟨wb, hw4⟩ : ∃ w4, w4 = wa.alloc (Obj.cells #[.int .i64 1, .int .i64 c.epoch, .int .i64 c.slot, .int .i64 c.lba] 3) := ⟨_, rfl⟩
    rw [← hw4]
    have hb4 : Below wa.heap.size wa wb := by rw [hw4]; exact (Below.refl _ _).alloc (Nat.le_refl _) _
    have B4 : Blk wb wa.heap.size [.int .i64 1, .int .i64 c.epoch, .int .i64 c.slot, .int .i64 c.lba] 3 := by rw [hw4]; exact Blk.new wa _ _
    have HGwb := Lib.hid B4
    have HBwb := Lib.hid (HBwa.out.below hb4 HBwa.out.lt)
    have HBEwb := Lib.hid (HBEwa.out.trans (hb4.mono HBEwa.out.size))
    have HVWwb := Lib.hid (HVWwa.out.below hb4 HVWwa.out.lt)
    clear hb4 B4 hw4
    (try go_wp2_with fail)
    refine hK.out _ _ (⟨HBwb.out.cell (i := 0) rfl, HBwb.out.cell (i := 1) rfl, HBwb.out.cell (i := 2) rfl⟩) (fun hHeld2 => ?_)
    clear hK K hHeld
    have hHeld := hHeld2
    clear hHeld2
    (try simp only [Act.put, Array.getInternal_eq_getElem, List.getElem_toArray, List.getElem_cons_succ, List.getElem_cons_zero, List.setIfInBounds_toArray, List.set_cons_zero, List.set_cons_succ])
    refine wpAnyH_ready (rs := [9]) (by kernel_rfl) (by simp) ?_
    refine AllReadyH.cons rfl (fun K hK => ?_) AllReadyH.nil
    go_simp
    refine (opack_walk _ _ [1, 4, 4, 4] [1, c.epoch, c.slot, c.lba] _ (IntRow.blk (xs := [1, 4, 4, 4]) HVWwb.out rfl 4) (IntRow.blk (xs := [1, c.epoch, c.slot, c.lba]) HGwb.out rfl 4) (by show 0 < 4; decide) (by show 4 ≤ 16; decide) HPK.out).mono ?_
    rintro e wp ⟨q, rfl, tq, hb5⟩
    have HBp := Lib.hid (HBwb.out.below hb5 HBwb.out.lt)
    have HBEp := Lib.hid (HBEwb.out.trans (hb5.mono HBEwb.out.size))
    have HTQ := Lib.hid (show Txt q (cellHead c) from tq.cast HPL.out)
    clear hb5 tq
    (try go_wp2_with fail)
    refine hK.out _ _ (⟨HBp.out.cell (i := 0) rfl, HBp.out.cell (i := 1) rfl, HBp.out.cell (i := 2) rfl⟩) (fun hHeld2 => ?_)
    clear hK K hHeld
    have hHeld := hHeld2
    clear hHeld2
    (try simp only [Act.put, Array.getInternal_eq_getElem, List.getElem_toArray, List.getElem_cons_succ, List.getElem_cons_zero, List.setIfInBounds_toArray, List.set_cons_zero, List.set_cons_succ])
    refine wpAnyH_take (i := 10) (v := ?_) rfl (by kernel_rfl) (by kernel_rfl) (by kernel_rfl) (fun _ _ _ h => h) (Or.inl ⟨by rfl, ?_⟩) (by assumption) ?_
    rotate_left
    · intro w hSw; (try dsimp only at hSw); go_simp; first | done | with_reducible rfl
    (try simp only [Act.put, Array.getInternal_eq_getElem, List.getElem_toArray, List.getElem_cons_succ, List.getElem_cons_zero, List.setIfInBounds_toArray, List.set_cons_zero, List.set_cons_succ])
    refine wpAnyH_take (i := 11) (v := ?_) rfl (by kernel_rfl) (by kernel_rfl) (by kernel_rfl) (fun _ _ _ h => h) (Or.inl ⟨by rfl, ?_⟩) (by assumption) ?_
    rotate_left
    · intro w hSw; (try dsimp only at hSw); go_simp; first | done | with_reducible rfl
    (try simp only [Act.put, Array.getInternal_eq_getElem, List.getElem_toArray, List.getElem_cons_succ, List.getElem_cons_zero, List.setIfInBounds_toArray, List.set_cons_zero, List.set_cons_succ])
    refine wpAnyH_take (i := 12) (v := ?_) rfl (by kernel_rfl) (by kernel_rfl) (by kernel_rfl) (fun _ _ _ h => h) (Or.inl ⟨by rfl, ?_⟩) (by assumption) ?_
    rotate_left
    · intro w hSw; (try dsimp only at hSw); go_simp; first | done | with_reducible rfl
    (try simp only [Act.put, Array.getInternal_eq_getElem, List.getElem_toArray, List.getElem_cons_succ, List.getElem_cons_zero, List.setIfInBounds_toArray, List.set_cons_zero, List.set_cons_succ])
    refine wpAnyH_take (i := 13) (v := ?_) rfl (by kernel_rfl) (by kernel_rfl) (by kernel_rfl) (fun _ _ _ h => h) (Or.inl ⟨by rfl, ?_⟩) (by assumption) ?_
    rotate_left
    · intro w hSw; (try dsimp only at hSw); go_simp; first | done | with_reducible rfl
    (try simp only [Act.put, Array.getInternal_eq_getElem, List.getElem_toArray, List.getElem_cons_succ, List.getElem_cons_zero, List.setIfInBounds_toArray, List.set_cons_zero, List.set_cons_succ])
    refine wpAnyH_take (i := 14) (v := ?_) rfl (by kernel_rfl) (by kernel_rfl) (by kernel_rfl) (fun _ _ _ h => h) (Or.inl ⟨by rfl, ?_⟩) (by assumption) ?_
    rotate_left
    · intro w hSw; (try dsimp only at hSw); go_simp; first | done | with_reducible rfl
    (try simp only [Act.put, Array.getInternal_eq_getElem, List.getElem_toArray, List.getElem_cons_succ, List.getElem_cons_zero, List.setIfInBounds_toArray, List.set_cons_zero, List.set_cons_succ])
    refine wpAnyH_done (by kernel_rfl) ?_ _
    clear hHeld
    have q4 := HBp.out.cell (i := 4) rfl
    go_wp2_with fail
    refine (otext_walk c.cipher _ (by have := HC.out.n; omega)).mono ?_
    rintro e wt ⟨t, rfl, tt, hbt⟩
    have HTT := Lib.hid tt
    have HBEt := Lib.hid (HBEp.out.trans (hbt.mono HBEp.out.size))
    have hqt : q.size + t.size ≤ 4096 := by rw [HTQ.out.size, tt.size, cellHead_length, textL_length, show c.cipher.data.toList.length = c.cipher.size from rfl]; have := HC.out.n; omega
    have hqi : (q.size : Int) + (t.size : Int) ≤ 4096 := by omega
    have HQT := Lib.hid hqt
    clear tt hbt hqt
    go_wp2_with fail
    refine (ofill_walk (q ++ t) 4096 _ (by rw [ByteArray.size_append]; exact HQT.out) (by decide)).mono ?_
    rintro e wf ⟨z, rfl, tz, hbf⟩
    have HBEf := Lib.hid (HBEt.out.trans (hbf.mono HBEt.out.size))
    have HTZ := Lib.hid (show Txt z (cellL c) from tz.cast (by unfold cellL; rw [show (q ++ t).data.toList = _ from HTQ.out.append HTT.out]))
    clear tz hbf
    go_wp2_with fail
    go_ret2
    exact ⟨⟨z, rfl, HTZ.out⟩, HBEf.out⟩
  · go_simp
    obtain ⟨wa, hw4⟩ : ∃ w4, w4 = wd.alloc (Obj.cells #[.int .i64 1, .int .i64 c.epoch, .int .i64 c.slot, .int .i64 c.lba] 3) := ⟨_, rfl⟩
    rw [← hw4]
    have hb4 : Below wd.heap.size wd wa := by rw [hw4]; exact (Below.refl _ _).alloc (Nat.le_refl _) _
    have B4 : Blk wa wd.heap.size [.int .i64 1, .int .i64 c.epoch, .int .i64 c.slot, .int .i64 c.lba] 3 := by rw [hw4]; exact Blk.new wd _ _
    have HGwa := Lib.hid B4
    have HBwa := Lib.hid (HBwd.out.below hb4 HBwd.out.lt)
    have HBEwa := Lib.hid (HBEwd.out.trans (hb4.mono HBEwd.out.size))
    skip
    clear hb4 B4 hw4
    (try go_wp2_with fail)
    refine hK.out _ _ (⟨HBwa.out.cell (i := 0) rfl, HBwa.out.cell (i := 1) rfl, HBwa.out.cell (i := 2) rfl⟩) (fun hHeld2 => ?_)
    clear hK K hHeld
    have hHeld := hHeld2
    clear hHeld2
    (try simp only [Act.put, Array.getInternal_eq_getElem, List.getElem_toArray, List.getElem_cons_succ, List.getElem_cons_zero, List.setIfInBounds_toArray, List.set_cons_zero, List.set_cons_succ])
    refine wpAnyH_ready (rs := [0]) (by kernel_rfl) (by simp) ?_
    refine AllReadyH.cons rfl (fun K hK => ?_) AllReadyH.nil
    go_simp
    refine (cellWidths_walk _).mono ?_
    rintro e wb ⟨⟨gw, rfl, hvw, _⟩, hb3⟩
    have HBwb := Lib.hid (HBwa.out.below hb3 HBwa.out.lt)
    have HBEwb := Lib.hid (HBEwa.out.trans (hb3.mono HBEwa.out.size))
    have HVWwb := Lib.hid hvw
    have HGwb := Lib.hid (HGwa.out.below hb3 HGwa.out.lt)
    clear hb3 hvw
    (try go_wp2_with fail)
    refine hK.out _ _ (⟨HBwb.out.cell (i := 0) rfl, HBwb.out.cell (i := 1) rfl, HBwb.out.cell (i := 2) rfl⟩) (fun hHeld2 => ?_)
    clear hK K hHeld
    have hHeld := hHeld2
    clear hHeld2
    (try simp only [Act.put, Array.getInternal_eq_getElem, List.getElem_toArray, List.getElem_cons_succ, List.getElem_cons_zero, List.setIfInBounds_toArray, List.set_cons_zero, List.set_cons_succ])
    refine wpAnyH_ready (rs := [9]) (by kernel_rfl) (by simp) ?_
    refine AllReadyH.cons rfl (fun K hK => ?_) AllReadyH.nil
    go_simp
    refine (opack_walk _ _ [1, 4, 4, 4] [1, c.epoch, c.slot, c.lba] _ (IntRow.blk (xs := [1, 4, 4, 4]) HVWwb.out rfl 4) (IntRow.blk (xs := [1, c.epoch, c.slot, c.lba]) HGwb.out rfl 4) (by show 0 < 4; decide) (by show 4 ≤ 16; decide) HPK.out).mono ?_
    rintro e wp ⟨q, rfl, tq, hb5⟩
    have HBp := Lib.hid (HBwb.out.below hb5 HBwb.out.lt)
    have HBEp := Lib.hid (HBEwb.out.trans (hb5.mono HBEwb.out.size))
    have HTQ := Lib.hid (show Txt q (cellHead c) from tq.cast HPL.out)
    clear hb5 tq
    (try go_wp2_with fail)
    refine hK.out _ _ (⟨HBp.out.cell (i := 0) rfl, HBp.out.cell (i := 1) rfl, HBp.out.cell (i := 2) rfl⟩) (fun hHeld2 => ?_)
    clear hK K hHeld
    have hHeld := hHeld2
    clear hHeld2
    (try simp only [Act.put, Array.getInternal_eq_getElem, List.getElem_toArray, List.getElem_cons_succ, List.getElem_cons_zero, List.setIfInBounds_toArray, List.set_cons_zero, List.set_cons_succ])
    refine wpAnyH_take (i := 10) (v := ?_) rfl (by kernel_rfl) (by kernel_rfl) (by kernel_rfl) (fun _ _ _ h => h) (Or.inl ⟨by rfl, ?_⟩) (by assumption) ?_
    rotate_left
    · intro w hSw; (try dsimp only at hSw); go_simp; first | done | with_reducible rfl
    (try simp only [Act.put, Array.getInternal_eq_getElem, List.getElem_toArray, List.getElem_cons_succ, List.getElem_cons_zero, List.setIfInBounds_toArray, List.set_cons_zero, List.set_cons_succ])
    refine wpAnyH_take (i := 11) (v := ?_) rfl (by kernel_rfl) (by kernel_rfl) (by kernel_rfl) (fun _ _ _ h => h) (Or.inl ⟨by rfl, ?_⟩) (by assumption) ?_
    rotate_left
    · intro w hSw; (try dsimp only at hSw); go_simp; first | done | with_reducible rfl
    (try simp only [Act.put, Array.getInternal_eq_getElem, List.getElem_toArray, List.getElem_cons_succ, List.getElem_cons_zero, List.setIfInBounds_toArray, List.set_cons_zero, List.set_cons_succ])
    refine wpAnyH_take (i := 12) (v := ?_) rfl (by kernel_rfl) (by kernel_rfl) (by kernel_rfl) (fun _ _ _ h => h) (Or.inl ⟨by rfl, ?_⟩) (by assumption) ?_
    rotate_left
    · intro w hSw; (try dsimp only at hSw); go_simp; first | done | with_reducible rfl
    (try simp only [Act.put, Array.getInternal_eq_getElem, List.getElem_toArray, List.getElem_cons_succ, List.getElem_cons_zero, List.setIfInBounds_toArray, List.set_cons_zero, List.set_cons_succ])
    refine wpAnyH_take (i := 13) (v := ?_) rfl (by kernel_rfl) (by kernel_rfl) (by kernel_rfl) (fun _ _ _ h => h) (Or.inl ⟨by rfl, ?_⟩) (by assumption) ?_
    rotate_left
    · intro w hSw; (try dsimp only at hSw); go_simp; first | done | with_reducible rfl
    (try simp only [Act.put, Array.getInternal_eq_getElem, List.getElem_toArray, List.getElem_cons_succ, List.getElem_cons_zero, List.setIfInBounds_toArray, List.set_cons_zero, List.set_cons_succ])
    refine wpAnyH_take (i := 14) (v := ?_) rfl (by kernel_rfl) (by kernel_rfl) (by kernel_rfl) (fun _ _ _ h => h) (Or.inl ⟨by rfl, ?_⟩) (by assumption) ?_
    rotate_left
    · intro w hSw; (try dsimp only at hSw); go_simp; first | done | with_reducible rfl
    (try simp only [Act.put, Array.getInternal_eq_getElem, List.getElem_toArray, List.getElem_cons_succ, List.getElem_cons_zero, List.setIfInBounds_toArray, List.set_cons_zero, List.set_cons_succ])
    refine wpAnyH_done (by kernel_rfl) ?_ _
    clear hHeld
    have q4 := HBp.out.cell (i := 4) rfl
    go_wp2_with fail
    refine (otext_walk c.cipher _ (by have := HC.out.n; omega)).mono ?_
    rintro e wt ⟨t, rfl, tt, hbt⟩
    have HTT := Lib.hid tt
    have HBEt := Lib.hid (HBEp.out.trans (hbt.mono HBEp.out.size))
    have hqt : q.size + t.size ≤ 4096 := by rw [HTQ.out.size, tt.size, cellHead_length, textL_length, show c.cipher.data.toList.length = c.cipher.size from rfl]; have := HC.out.n; omega
    have hqi : (q.size : Int) + (t.size : Int) ≤ 4096 := by omega
    have HQT := Lib.hid hqt
    clear tt hbt hqt
    go_wp2_with fail
    refine (ofill_walk (q ++ t) 4096 _ (by rw [ByteArray.size_append]; exact HQT.out) (by decide)).mono ?_
    rintro e wf ⟨z, rfl, tz, hbf⟩
    have HBEf := Lib.hid (HBEt.out.trans (hbf.mono HBEt.out.size))
    have HTZ := Lib.hid (show Txt z (cellL c) from tz.cast (by unfold cellL; rw [show (q ++ t).data.toList = _ from HTQ.out.append HTT.out]))
    clear tz hbf
    go_wp2_with fail
    go_ret2
    exact ⟨⟨z, rfl, HTZ.out⟩, HBEf.out⟩
end Go.Proofs.YtppdboadjefieaaGreat

