/- Keys' places (chapter 11): Put, Empty, Take, Pick; a text with noughts behind it (chapter 1). Superblocks (chapter 10): Check, widths, Put, of a superblock that may be. -/
import Derived.Test.YtppdboadjefieaaGreatQ6
import Derived.Test.YtppdboadjefieaaGreatQ8
import Derived.Test.YtppdboadjefieaaGreatQ4
import Derived.Test.YtppdboadjefieaaGreatQ7
set_option linter.unusedSimpArgs false
set_option linter.unusedVariables false
namespace Go.Proofs.YtppdboadjefieaaGreat
open Go Go.RowKit
set_option maxRecDepth 100000

theorem ofill_walk (s : ByteArray) (n : Nat) (w : World) (h : s.size ≤ n) (hn : n ≤ 65536) :
    Calls Tryz.prog 216 #[.string s, .int .i64 (n : Int)] w fun e w' => ∃ r, e = .returned (.tuple #[.string r, .int .i64 0]) ∧ Txt r (fillL s.data.toList n) ∧ Below w.heap.size w w' := by
  have h1 : ¬ (n : Int) < s.size := by omega
  have h2 : ¬ (65536 : Int) < n := by omega
  go_enter Tryz.func216, Tryz.ntmps216
  go_wp2_with fail
  obtain ⟨m, hm⟩ : ∃ m : Nat, m + s.size = n := ⟨n - s.size, by omega⟩
  rw [show (n : Int) - (s.size : Int) = (m : Int) by omega]
  refine (repeat0 m _ (by omega)).mono ?_
  rintro e w1 ⟨r, rfl, tr, hb⟩
  have hr : r.size = m := by rw [tr.size]; simp
  have HM := Lib.hid hm
  have HR := Lib.hid tr
  clear tr h h1
  have hsz : (s.size : Int) + r.size ≤ 65536 := by omega
  clear hm
  go_wp2_with fail
  go_ret2
  refine ⟨_, rfl, ((Txt.self s).append HR.out).cast ?_, hb⟩
  unfold fillL
  have : s.data.toList.length = s.size := rfl
  rw [this, show n - s.size = m by have := HM.out; omega]
theorem slotsEmpty_walk (w : World) :
    Calls Tryz.prog 154 #[] w fun e w' => e = .returned (.string (⟨(List.replicate 4096 0).toArray⟩ : ByteArray)) ∧ Below w.heap.size w w' := by
  go_enter Tryz.func154, Tryz.ntmps154
  go_wp2_with fail
  refine (repeat0 4096 _ (by decide)).mono ?_
  rintro e w1 ⟨r, rfl, tr, hb⟩
  obtain rfl : r = (⟨(List.replicate 4096 0).toArray⟩ : ByteArray) := tr.of
  go_wp2_with fail
  go_ret
  exact ⟨rfl, hb⟩
set_option maxHeartbeats 1000000 in
theorem slotsPut_walk (n : Nat) (key : ByteArray) (w : World) (hn : n < 4294967296) (hk : key.size = 32) :
    Calls Tryz.prog 146 #[.int .i64 (n : Int), .string key] w fun e w' => ∃ r, e = .returned (.tuple #[.string r, .int .i64 0]) ∧ Txt r (keyL n key.data.toList) ∧ Below w.heap.size w w' := by
  go_enter Tryz.func146, Tryz.ntmps146
  go_wp2_with fail
  refine (oput n 4 _ (by decide) (by decide) (by omega) (fun _ => by simpa using hn)).mono ?_
  rintro e w1 ⟨r, rfl, tr, hb1⟩
  have hr : r.size = 4 := by rw [tr.size, beBytes_length]
  have HTR := Lib.hid tr
  have HB1 := Lib.hid hb1
  clear tr hb1
  have h32 : (key.size : Int) = 32 := by omega
  go_upto_region 5 with fail
  obtain ⟨s, hs⟩ : ∃ s, (⟨#[107, 101, 121]⟩ : ByteArray) ++ r ++ key = s := ⟨_, rfl⟩
  rw [hs]
  have hss : s.size = 39 := by rw [← hs, ByteArray.size_append, ByteArray.size_append, hr, hk]; rfl
  have HTS := Lib.hid (show Txt s (keyHead n key.data.toList) by rw [← hs]; exact ((show Txt (⟨#[107, 101, 121]⟩ : ByteArray) markK from rfl).append (HTR.out.cast (by simp))).append (Txt.self key))
  clear hs hr
  go_wp2_with fail
  refine (sum_one s _ _ (by omega)).mono ?_
  rintro e w2 ⟨q, rfl, tq, hb2⟩
  have hq : q.size = 32 := by rw [tq.size, sha_length]
  have HTQ := Lib.hid (show Txt q (sha (keyHead n key.data.toList)) from tq.cast (by rw [show s.data.toList = _ from HTS.out]))
  have HB2 := Lib.hid (HB1.out.trans (hb2.mono HB1.out.size))
  clear tq hb2
  go_wp2_with fail
  refine (ofill_walk (s ++ q) 4096 _ (by rw [ByteArray.size_append, hss, hq]; decide) (by decide)).mono ?_
  rintro e w3 ⟨z, rfl, tz, hb3⟩
  have HB3 := Lib.hid (HB2.out.trans (hb3.mono HB2.out.size))
  have HTZ := Lib.hid (show Txt z (keyL n key.data.toList) from tz.cast (by unfold keyL; rw [show (s ++ q).data.toList = _ from HTS.out.append HTQ.out]))
  clear tz hb3
  go_wp2_with fail
  go_ret2
  exact ⟨z, rfl, HTZ.out, HB3.out⟩
theorem slotsMay_walk (n : Int) (w : World) (h0 : 0 ≤ n) (h1 : n < 4294967296) :
    Calls Tryz.prog 390 #[.int .i64 n] w fun e w' => e = .returned (.bool true) ∧ w = w' := by
  have h2 : n ≤ 4294967295 := by omega
  go_enter Tryz.func390, Tryz.ntmps390
  go_wp2_with fail
  go_ret
  exact ⟨rfl, rfl⟩
theorem keyL_split (n : Nat) (key : List UInt8) : ∃ t, keyL n key = markK ++ (beBytes 4 n ++ (key ++ t)) := by
  refine ⟨sha (keyHead n key) ++ List.replicate (4096 - (keyHead n key ++ sha (keyHead n key)).length) 0, ?_⟩
  unfold keyL fillL
  have h : keyHead n key = markK ++ (beBytes 4 n ++ key) := by unfold keyHead; rw [List.append_assoc]; simp
  conv => lhs; rw [show keyHead (n : Int) key ++ sha (keyHead n key) = keyHead n key ++ sha (keyHead n key) from rfl]
  rw [List.append_assoc]
  conv => lhs; lhs; rw [h]
  simp only [List.append_assoc]
theorem keyL_cut1 {block : ByteArray} {n : Nat} {key : List UInt8} (ht : Txt block (keyL n key)) : Txt (block.extract 3 7) (beBytes 4 n) := by
  obtain ⟨t, h⟩ := keyL_split n key
  rw [h] at ht
  refine (ht.extract 3 7).cast ?_
  rw [show (7 : Nat) = 3 + 4 from rfl, List.drop_take, show 3 + 4 - 3 = 4 from rfl, drop_app (show markK.length = 3 from rfl), take_app (beBytes_length 4 n)]
theorem keyL_cut2 {block key : ByteArray} {n : Nat} (ht : Txt block (keyL n key.data.toList)) (hk : key.size = 32) : block.extract 7 39 = key := by
  obtain ⟨t, h⟩ := keyL_split n key.data.toList
  rw [h] at ht
  have h2 : Txt (block.extract 7 39) key.data.toList := (ht.extract 7 39).cast (by
    rw [show (39 : Nat) = 7 + 32 from rfl, List.drop_take, show 7 + 32 - 7 = 32 from rfl]
    have e7 : ∀ x : List UInt8, x.drop 7 = (x.drop 3).drop 4 := fun x => by rw [List.drop_drop]
    rw [e7, drop_app (show markK.length = 3 from rfl), drop_app (beBytes_length 4 n), take_app (show key.data.toList.length = 32 from hk)])
  exact h2.eq (Txt.self key)
theorem keyL_some {block : ByteArray} {n : Nat} {key : List UInt8} (ht : Txt block (keyL n key)) (hs : block.size = 4096) : ¬ ∀ k, k < block.size → block.data.toList.getD k 0 = 0 := by
  intro h
  obtain ⟨t, hk⟩ := keyL_split n key
  have h0 := h 0 (by omega)
  rw [show block.data.toList = _ from ht, hk] at h0
  exact absurd h0 (by simp [markK, List.getD])
set_option maxHeartbeats 1000000 in
theorem slotsTake_walk (n : Nat) (key block : ByteArray) (w : World) (hn : n < 4294967296) (hk : key.size = 32) (ht : Txt block (keyL n key.data.toList)) :
    Calls Tryz.prog 391 #[.string block] w fun e w' => e = .returned (.tuple #[.int .i64 (n : Int), .string key, .int .i64 0]) ∧ Below w.heap.size w w' := by
  have hs : block.size = 4096 := by rw [ht.size]; exact keyL_length (by exact hk)
  have HSOME := Lib.hid (keyL_some ht hs)
  have HC1 := Lib.hid (keyL_cut1 ht)
  have HC2 := Lib.hid (keyL_cut2 ht hk)
  have HT := Lib.hid ht
  have HS := Lib.hid hs
  have hsi : (block.size : Int) = 4096 := by omega
  clear ht
  go_enter Tryz.func391, Tryz.ntmps391
  go_wp2_with fail
  refine (any_walk block _ (by have := HS.out; omega)).mono ?_
  rintro e w1 ⟨q, rfl, hq, h01, hb1⟩
  obtain rfl : q = 1 := by
    rcases h01 with h1 | h1
    · exact absurd (hq.1 h1) HSOME.out
    · exact h1
  have HB1 := Lib.hid hb1
  clear hq h01 hb1
  go_wp2_with fail
  obtain ⟨s4, h4⟩ : ∃ s4, block.extract 3 7 = s4 := ⟨_, rfl⟩
  rw [h4]
  have t4 : Txt s4 (beBytes 4 n) := by rw [← h4]; exact HC1.out
  have HT4 := Lib.hid t4
  clear h4 t4
  refine (oget_walk s4 _).mono ?_
  rintro e w2 ⟨he, rfl⟩
  obtain rfl : e = .returned (.tuple #[.int .i64 (n : Int), .int .i64 0]) := by
    rw [show s4.data.toList = _ from HT4.out] at he
    have hnum := beNum_beBytes 4 n (by simpa using hn)
    rcases he with ⟨_, h⟩ | ⟨h, _⟩
    · rw [h, hnum]
    · exact absurd ⟨by rw [beBytes_length]; omega, by rw [beBytes_length]; omega, by rw [hnum]; omega⟩ h
  clear he
  go_wp2_with fail
  rw [HC2.out]
  refine (slotsPut_walk n key _ hn hk).mono ?_
  rintro e w3 ⟨r, rfl, tr, hb3⟩
  obtain rfl : r = block := tr.eq HT.out
  have HB3 := Lib.hid (HB1.out.trans (hb3.mono HB1.out.size))
  clear tr hb3
  go_wp2_with fail
  refine (equal_walk r r _ (by have := HS.out; omega) rfl).mono ?_
  rintro e w4 ⟨rfl, hb4⟩
  have HB4 := Lib.hid (HB3.out.trans (hb4.mono HB3.out.size))
  rw [decide_eq_true rfl]
  clear hb4
  go_wp2_with fail
  (try simp only [Exit.inBlock, Exit.then]); refine bodyPost_ret (results_tmp3 rfl _ _ _) rfl ⟨rfl, HB4.out⟩
theorem slotsPick_walk (n : Nat) (key a b : ByteArray) (w : World) (hn : n < 4294967296) (hk : key.size = 32) (ht : Txt (if n % 2 = 0 then a else b) (keyL n key.data.toList)) :
    Calls Tryz.prog 333 #[.string a, .string b, .int .i64 (n : Int)] w fun e w' => e = .returned (.tuple #[.string key, .int .i64 0]) ∧ Below w.heap.size w w' := by
  have hn0 : (0 : Int) ≤ (n : Int) := by omega
  by_cases he : n % 2 = 0
  · rw [if_pos he] at ht
    have hm : (n : Int) % 2 = 0 := by omega
    go_enter Tryz.func333, Tryz.ntmps333
    go_wp2_with fail
    refine (slotsMay_walk _ _ hn0 (by omega)).mono ?_
    rintro e w' ⟨rfl, rfl⟩
    go_wp2_with (first
      | ((with_reducible refine wpList_index_arr 442 9 (.tmp 17) (.tmp 19) [.string a, .string b] 2 0 (.string a) (some 20) Tryz.underlying442 Tryz.isAgg9 Tryz.sizeOf9 (by decide) rfl ?hgd ?ho ?hd ?hx ?hy ?_); (case hgd | ho | hd | hx => rfl); (case hy => exact congrArg (Value.int .i64) hm))
      | fail)
    refine (slotsTake_walk n key a _ hn hk ht).mono ?_
    rintro e w1 ⟨rfl, hb⟩
    go_wp2_with fail
    go_ret2
    exact ⟨rfl, hb⟩
  · rw [if_neg he] at ht
    have hm : (n : Int) % 2 = 1 := by omega
    go_enter Tryz.func333, Tryz.ntmps333
    go_wp2_with fail
    refine (slotsMay_walk _ _ hn0 (by omega)).mono ?_
    rintro e w' ⟨rfl, rfl⟩
    go_wp2_with (first
      | ((with_reducible refine wpList_index_arr 442 9 (.tmp 17) (.tmp 19) [.string a, .string b] 2 1 (.string b) (some 20) Tryz.underlying442 Tryz.isAgg9 Tryz.sizeOf9 (by decide) rfl ?hgd ?ho ?hd ?hx ?hy ?_); (case hgd | ho | hd | hx => rfl); (case hy => exact congrArg (Value.int .i64) hm))
      | fail)
    refine (slotsTake_walk n key b _ hn hk ht).mono ?_
    rintro e w1 ⟨rfl, hb⟩
    go_wp2_with fail
    go_ret2
    exact ⟨rfl, hb⟩
set_option maxHeartbeats 1000000 in
theorem stale1_same (i n : Nat) (s : ByteArray) (b5 b7 : Nat) (w : World) (h5 : Blk w b5 [.int .i64 (n : Int)] 3) (hi : i = n % 2) :
    Calls Tryz.prog 392 #[.int .i64 (i : Int), .string s, .pointer (some ⟨b5, 0, none⟩), .pointer (some ⟨b7, 0, none⟩)] w fun e w' => e = .returned (.tuple #[]) ∧ Below w.heap.size w w' := by
  have c5 := h5.cell (i := 0) rfl
  have hm : (n : Int) % 2 = (i : Int) := by omega
  clear hi
  go_enter Tryz.func392, Tryz.ntmps392
  go_wp2_with fail
  go_end0
  exact ⟨rfl, Below.refl _ _⟩
set_option maxHeartbeats 1000000 in
theorem stale1_none (i n : Nat) (b5 b7 : Nat) (w : World) (h5 : Blk w b5 [.int .i64 (n : Int)] 3) (hi : i ≠ n % 2) :
    Calls Tryz.prog 392 #[.int .i64 (i : Int), .string (⟨(List.replicate 4096 0).toArray⟩ : ByteArray), .pointer (some ⟨b5, 0, none⟩), .pointer (some ⟨b7, 0, none⟩)] w fun e w' => e = .returned (.tuple #[]) ∧ Below w.heap.size w w' := by
  have c5 := h5.cell (i := 0) rfl
  have hm : ¬ ((i : Int) = (n : Int) % 2) := by omega
  clear hi
  go_enter Tryz.func392, Tryz.ntmps392
  go_wp2_with fail
  refine (slotsEmpty_walk _).mono ?_
  rintro e w1 ⟨rfl, hb⟩
  go_wp2_with fail
  go_end0
  exact ⟨rfl, hb⟩
theorem zeroInts (w : World) : Sem.run Tryz.prog (zeroValue 58) w = .ok (.slice none 0 0) w := by kernel_rfl
set_option maxHeartbeats 2000000 in
theorem slotsStale_walk (n : Nat) (a b : ByteArray) (w : World) (hn : n < 4294967296) (hab : (if n % 2 = 0 then b else a) = (⟨(List.replicate 4096 0).toArray⟩ : ByteArray)) :
    Calls Tryz.prog 334 #[.string a, .string b, .int .i64 (n : Int)] w fun e w' => e = .returned (.slice none 0 0) ∧ Below w.heap.size w w' := by
  have hmf : ∀ (fn : Fn) (first cap : Array Value) (w : World), (Instr.makeFunc fn first cap).run Tryz.prog w = .ok (.func fn first cap) w := fun _ _ _ _ => rfl
  have HAB := Lib.hid hab
  have hn0 : (0 : Int) ≤ (n : Int) := by omega
  have hn1 : (n : Int) < 4294967296 := by omega
  have HN0 := Lib.hid hn0
  have HN1 := Lib.hid hn1
  clear hab hn0 hn1 hn
  go_enter Tryz.func334, Tryz.ntmps334
  go_wp2_with (first
    | ((with_reducible refine wpList_box_one 3 (.tmp 2) (.int .i64 (n : Int)) rfl (some 5) ?hgd ?ho ?hd ?hx ?_); (case hgd | ho | hd | hx => rfl); (intro b5 w1 l1 B1 e1 z1); (have c5 := B1.cell (i := 0) rfl))
    | ((with_reducible refine wpList_alloc_one 58 (.slice none 0 0) zeroInts rfl (some 7) ?hgd ?ho ?hd ?_); (case hgd | ho | hd => rfl); (intro b7 w2 l2 B2 e2 z2); (have B1' := B1.below e2 (Nat.lt_of_lt_of_le z1 l2)); (have c5' := B1'.cell (i := 0) rfl))
    | fail)
  refine (slotsMay_walk _ _ HN0.out HN1.out).mono ?_
  rintro e w' ⟨rfl, rfl⟩
  have HB := Lib.hid ((e1.mono l1).trans (e2.mono (Nat.le_trans l1 (Nat.le_of_lt (Nat.lt_of_lt_of_le z1 l2)))))
  have H5 := Lib.hid B1'
  have H7 := Lib.hid B2
  clear e1 e2 B1 c5 c5' z1 z2 B1' B2 l1 l2
  go_wp2_with fail
  go_loopw [19] (fun i wr => ∃ k : Nat, k ≤ 2 ∧ i = .int .i64 k ∧ Below w.heap.size w wr ∧ Blk wr b5 [.int .i64 (n : Int)] 3 ∧ Blk wr b7 [.slice none 0 0] 58) (fun i _ => 2 - (intOf i).toNat)
  case atStart => exact ⟨0, by omega, rfl, HB.out, H5.out, H7.out⟩
  case round =>
    clear HB H5 H7
    obtain ⟨k, hk, rfl, hbb, h5, h7⟩ := hrel
    have HB := Lib.hid hbb
    have H5 := Lib.hid h5
    have H7 := Lib.hid h7
    clear hbb h5 h7
    match k, hk with
    | 0, hk =>
      go_wp2_with (first
        | ((with_reducible refine wpList_index_arr 442 9 (.tmp 18) (.tmp 19) [.string a, .string b] 2 0 (.string a) (some 22) Tryz.underlying442 Tryz.isAgg9 Tryz.sizeOf9 (by decide) rfl ?hgd ?ho ?hd ?hx ?hy ?_); (case hgd | ho | hd | hx | hy => rfl))
        | fail)
      refine Calls.mono (show Calls Tryz.prog 392 #[.int .i64 ((0 : Nat) : Int), .string a, .pointer (some ⟨b5, 0, none⟩), .pointer (some ⟨b7, 0, none⟩)] wr (fun e w' => e = .returned (.tuple #[]) ∧ Below wr.heap.size wr w') from ?_) ?_
      · by_cases hm : 0 = n % 2
        · exact stale1_same 0 n a b5 b7 _ H5.out hm
        · have hv : a = (⟨(List.replicate 4096 0).toArray⟩ : ByteArray) := by have := HAB.out; rw [if_neg (by omega)] at this; exact this
          rw [hv]
          exact stale1_none 0 n b5 b7 _ H5.out hm
      rintro e w5 ⟨rfl, hb5⟩
      have hs5 := HB.out.size
      have B5 := H5.out.below hb5 H5.out.lt
      have B7 := H7.out.below hb5 H7.out.lt
      have HBb := HB.out.trans (hb5.mono hs5)
      clear hb5
      go_wp2_with fail
      go_roundw
      case rel => exact ⟨0+1, by omega, rfl, HBb, B5, B7⟩
      case measure => simp [intOf]
    | 1, hk =>
      go_wp2_with (first
        | ((with_reducible refine wpList_index_arr 442 9 (.tmp 18) (.tmp 19) [.string a, .string b] 2 1 (.string b) (some 22) Tryz.underlying442 Tryz.isAgg9 Tryz.sizeOf9 (by decide) rfl ?hgd ?ho ?hd ?hx ?hy ?_); (case hgd | ho | hd | hx | hy => rfl))
        | fail)
      refine Calls.mono (show Calls Tryz.prog 392 #[.int .i64 ((1 : Nat) : Int), .string b, .pointer (some ⟨b5, 0, none⟩), .pointer (some ⟨b7, 0, none⟩)] wr (fun e w' => e = .returned (.tuple #[]) ∧ Below wr.heap.size wr w') from ?_) ?_
      · by_cases hm : 1 = n % 2
        · exact stale1_same 1 n b b5 b7 _ H5.out hm
        · have hv : b = (⟨(List.replicate 4096 0).toArray⟩ : ByteArray) := by have := HAB.out; rw [if_pos (by omega)] at this; exact this
          rw [hv]
          exact stale1_none 1 n b5 b7 _ H5.out hm
      rintro e w5 ⟨rfl, hb5⟩
      have hs5 := HB.out.size
      have B5 := H5.out.below hb5 H5.out.lt
      have B7 := H7.out.below hb5 H7.out.lt
      have HBb := HB.out.trans (hb5.mono hs5)
      clear hb5
      go_wp2_with fail
      go_roundw
      case rel => exact ⟨1+1, by omega, rfl, HBb, B5, B7⟩
      case measure => simp [intOf]
    | 2, hk =>
      have c7 := H7.out.cell (i := 0) rfl
      go_wp2_with fail
      go_ret
      exact ⟨rfl, HB.out⟩
end Go.Proofs.YtppdboadjefieaaGreat

namespace Go.Proofs.YtppdboadjefieaaGreat
open Go Go.RowKit
set_option maxRecDepth 100000

theorem sizeSup {s : SupD} : (Tryz.prog.info? 135).map (·.size) = some s.cells.length := by kernel_rfl
theorem sup_one (s : SupD) : ∀ v ∈ s.cells, v.oneCell' = true := by intro v hv; simp [SupD.cells] at hv; rcases hv with rfl | rfl | rfl | rfl | rfl | rfl | rfl <;> rfl
theorem sup_geo {w : World} {b : Nat} {s : SupD} (h : Blk w b s.cells 135) : w.rangeAt b 4 s.geo.cells := by
  intro j v hv
  match j, hv with
  | 0, hv => simp [GeoD.cells] at hv; subst hv; exact h.cell (i := 4) rfl
  | 1, hv => simp [GeoD.cells] at hv; subst hv; exact h.cell (i := 5) rfl
  | 2, hv => simp [GeoD.cells] at hv; subst hv; exact h.cell (i := 6) rfl
  | j + 3, hv => simp [GeoD.cells] at hv
def widths10 : List Int := [8, 4, 4, 8]
theorem supWidths_walk (w : World) :
    Calls Tryz.prog 324 #[] w fun e w' => (∃ v, e = .returned v ∧ IntRow w' v widths10) ∧ Below w.heap.size w w' := by
  go_enter Tryz.func324, Tryz.ntmps324
  go_wp2_with fail
  go_ret
  exact ⟨⟨_, rfl, IntRow.blk (xs := widths10) (Blk.new w (widths10.map (Value.int .i64)) 3) rfl 4⟩, (Below.refl _ _).alloc (Nat.le_refl _) _⟩
theorem supPack {s : SupD} (h : SupOk s) : PackOk widths10 [s.gen, s.tail, s.epoch, s.clock] := by
  obtain ⟨⟨k1, k2, k3, k4, k5, k6⟩, h1, h2, h3, h4, h5, h6, h7, h8⟩ := h
  have p4 : (256 : Nat) ^ 4 = 4294967296 := rfl
  have p8 : (256 : Nat) ^ 8 = 18446744073709551616 := rfl
  refine ⟨rfl, fun i a x ha hx => ?_⟩
  match i, ha, hx with
  | 0, ha, hx => simp [widths10] at ha hx; subst ha; subst hx; simp; omega
  | 1, ha, hx => simp [widths10] at ha hx; subst ha; subst hx; simp; omega
  | 2, ha, hx => simp [widths10] at ha hx; subst ha; subst hx; simp; omega
  | 3, ha, hx => simp [widths10] at ha hx; subst ha; subst hx; simp; omega
theorem supL_pack (s : SupD) : packL widths10 [s.gen, s.tail, s.epoch, s.clock] = beBytes 8 s.gen.toNat ++ beBytes 4 s.tail.toNat ++ beBytes 4 s.epoch.toNat ++ beBytes 8 s.clock.toNat := by simp [packL, widths10]
set_option maxHeartbeats 4000000 in
theorem supCheck_walk (s : SupD) (w : World) (hs : SupOk s) :
    Calls Tryz.prog 233 #[s.v] w fun e w' => e = .returned (.int .i64 0) ∧ Below w.heap.size w w' := by
  obtain ⟨gen, tail, epoch, clock, ⟨blocks, lbas, first⟩⟩ := s
  obtain ⟨hg, h1, h2, h3, h4, h5, h6, h7, h8⟩ := hs
  simp only at hg h1 h2 h3 h4 h5 h6 h7 h8
  have HG := Lib.hid hg
  have d1 : decide (gen < 1) = false := decide_eq_false (by omega)
  have d2 : decide (1152921504606846976 < gen) = false := decide_eq_false (by omega)
  have d4 : ¬ (blocks - 4 : Int) < tail := by omega
  have d5 : ¬ (4294967295 : Int) < epoch := by omega
  have d6 : ¬ (1099511627776 : Int) < clock := by omega
  have d3 : decide (tail < 0) = false := decide_eq_false (by omega)
  clear hg
  go_enter Tryz.func233, Tryz.ntmps233
  go_wp2_with (first
    | ((with_reducible refine wpList_box_new 135 (.tmp 0) (SupD.cells ⟨gen, tail, epoch, clock, ⟨blocks, lbas, first⟩⟩) (some 1) ?hgd ?ho ?hd ?hx ?_); (case hgd | ho | hd | hx => rfl); (intro b1 w1 l1 B1 e1 z1))
    | ((with_reducible refine wpList_load_met 23 (.tmp 4) b1 4 (GeoD.cells ⟨blocks, lbas, first⟩) _ (some 5) (sup_geo (s := ⟨gen, tail, epoch, clock, ⟨blocks, lbas, first⟩⟩) B1) Tryz.underlying23 rfl sizeGeo ?hg ?ho ?hds ?hx ?_); (case ho | hg | hds | hx => rfl))
    | fail)
  refine (geomCheck_walk ⟨blocks, lbas, first⟩ _ HG.out).mono ?_
  rintro e w2 ⟨rfl, hb2⟩
  have HB2 := Lib.hid (B1.below hb2 z1)
  have HBE2 := Lib.hid ((e1.mono l1).trans (hb2.mono (Nat.le_trans l1 (Nat.le_of_lt z1))))
  clear hb2 B1 e1
  go_upto_region 2 with fail
  refine wp_region_held_drew (S := fun wx => Blk wx b1 (SupD.cells ⟨gen, tail, epoch, clock, ⟨blocks, lbas, first⟩⟩) 135) (by kernel_rfl) (HB2.out.drew) (fun hHeld => ?_)
  obtain ⟨wd, hwd⟩ : ∃ wd, wd = w2.drew := ⟨_, rfl⟩
  have HBd := Lib.hid (show Blk wd b1 _ 135 from by rw [hwd]; exact HB2.out.drew)
  have HBEd : Hid (Below w.heap.size w wd) := Lib.hid (by rw [hwd]; exact HBE2.out.drew)
  rw [← hwd]
  rw [← hwd] at hHeld
  clear hwd
  refine wpAnyH_take (i := 0) (v := ?_) rfl (by kernel_rfl) (by kernel_rfl) (by kernel_rfl) (fun _ _ _ h => h) (Or.inl ⟨by rfl, ?_⟩) (by assumption) ?_
  rotate_left
  · intro w hSw; (try dsimp only at hSw); (have a0 := hSw.cell (i := 0) rfl); (have a1 := hSw.cell (i := 1) rfl); (have a2 := hSw.cell (i := 2) rfl); (have a3 := hSw.cell (i := 3) rfl); go_simp; first | done | with_reducible rfl
  (try simp only [Act.put, Array.getInternal_eq_getElem, List.getElem_toArray, List.getElem_cons_succ, List.getElem_cons_zero, List.setIfInBounds_toArray, List.set_cons_zero, List.set_cons_succ])
  refine wpAnyH_take (i := 1) (v := ?_) rfl (by kernel_rfl) (by kernel_rfl) (by kernel_rfl) (fun _ _ _ h => h) (Or.inl ⟨by rfl, ?_⟩) (by assumption) ?_
  rotate_left
  · intro w hSw; (try dsimp only at hSw); (have a0 := hSw.cell (i := 0) rfl); (have a1 := hSw.cell (i := 1) rfl); (have a2 := hSw.cell (i := 2) rfl); (have a3 := hSw.cell (i := 3) rfl); go_simp; first | done | with_reducible rfl
  (try simp only [Act.put, Array.getInternal_eq_getElem, List.getElem_toArray, List.getElem_cons_succ, List.getElem_cons_zero, List.setIfInBounds_toArray, List.set_cons_zero, List.set_cons_succ])
  refine wpAnyH_take (i := 2) (v := ?_) rfl (by kernel_rfl) (by kernel_rfl) (by kernel_rfl) (fun _ _ _ h => h) (Or.inl ⟨by rfl, ?_⟩) (by assumption) ?_
  rotate_left
  · intro w hSw; (try dsimp only at hSw); (have a0 := hSw.cell (i := 0) rfl); (have a1 := hSw.cell (i := 1) rfl); (have a2 := hSw.cell (i := 2) rfl); (have a3 := hSw.cell (i := 3) rfl); go_simp; first | done | with_reducible rfl
  (try simp only [Act.put, Array.getInternal_eq_getElem, List.getElem_toArray, List.getElem_cons_succ, List.getElem_cons_zero, List.setIfInBounds_toArray, List.set_cons_zero, List.set_cons_succ])
  refine wpAnyH_take (i := 3) (v := ?_) rfl (by kernel_rfl) (by kernel_rfl) (by kernel_rfl) (fun _ _ _ h => h) (Or.inl ⟨by rfl, ?_⟩) (by assumption) ?_
  rotate_left
  · intro w hSw; (try dsimp only at hSw); (have a0 := hSw.cell (i := 0) rfl); (have a1 := hSw.cell (i := 1) rfl); (have a2 := hSw.cell (i := 2) rfl); (have a3 := hSw.cell (i := 3) rfl); go_simp; first | done | with_reducible rfl
  (try simp only [Act.put, Array.getInternal_eq_getElem, List.getElem_toArray, List.getElem_cons_succ, List.getElem_cons_zero, List.setIfInBounds_toArray, List.set_cons_zero, List.set_cons_succ])
  refine wpAnyH_take (i := 4) (v := ?_) rfl (by kernel_rfl) (by kernel_rfl) (by kernel_rfl) (fun _ _ _ h => h) (Or.inl ⟨by rfl, ?_⟩) (by assumption) ?_
  rotate_left
  · intro w hSw; (try dsimp only at hSw); (have a0 := hSw.cell (i := 0) rfl); (have a1 := hSw.cell (i := 1) rfl); (have a2 := hSw.cell (i := 2) rfl); (have a3 := hSw.cell (i := 3) rfl); go_simp; first | done | with_reducible rfl
  (try simp only [Act.put, Array.getInternal_eq_getElem, List.getElem_toArray, List.getElem_cons_succ, List.getElem_cons_zero, List.setIfInBounds_toArray, List.set_cons_zero, List.set_cons_succ])
  refine wpAnyH_take (i := 5) (v := ?_) rfl (by kernel_rfl) (by kernel_rfl) (by kernel_rfl) (fun _ _ _ h => h) (Or.inl ⟨by rfl, ?_⟩) (by assumption) ?_
  rotate_left
  · intro w hSw; (try dsimp only at hSw); (have a0 := hSw.cell (i := 0) rfl); (have a1 := hSw.cell (i := 1) rfl); (have a2 := hSw.cell (i := 2) rfl); (have a3 := hSw.cell (i := 3) rfl); go_simp; first | done | with_reducible rfl
  (try simp only [Act.put, Array.getInternal_eq_getElem, List.getElem_toArray, List.getElem_cons_succ, List.getElem_cons_zero, List.setIfInBounds_toArray, List.set_cons_zero, List.set_cons_succ])
  refine wpAnyH_take (i := 6) (v := ?_) rfl (by kernel_rfl) (by kernel_rfl) (by kernel_rfl) (fun _ _ _ h => h) (Or.inl ⟨by rfl, ?_⟩) (by assumption) ?_
  rotate_left
  · intro w hSw; (try dsimp only at hSw); (have a0 := hSw.cell (i := 0) rfl); (have a1 := hSw.cell (i := 1) rfl); (have a2 := hSw.cell (i := 2) rfl); (have a3 := hSw.cell (i := 3) rfl); go_simp; first | done | with_reducible rfl
  (try simp only [Act.put, Array.getInternal_eq_getElem, List.getElem_toArray, List.getElem_cons_succ, List.getElem_cons_zero, List.setIfInBounds_toArray, List.set_cons_zero, List.set_cons_succ])
  refine wpAnyH_take (i := 7) (v := ?_) rfl (by kernel_rfl) (by kernel_rfl) (by kernel_rfl) (fun _ _ _ h => h) (Or.inl ⟨by rfl, ?_⟩) (by assumption) ?_
  rotate_left
  · intro w hSw; (try dsimp only at hSw); (have a0 := hSw.cell (i := 0) rfl); (have a1 := hSw.cell (i := 1) rfl); (have a2 := hSw.cell (i := 2) rfl); (have a3 := hSw.cell (i := 3) rfl); go_simp; first | done | with_reducible rfl
  (try simp only [Act.put, Array.getInternal_eq_getElem, List.getElem_toArray, List.getElem_cons_succ, List.getElem_cons_zero, List.setIfInBounds_toArray, List.set_cons_zero, List.set_cons_succ])
  refine wpAnyH_take (i := 8) (v := ?_) rfl (by kernel_rfl) (by kernel_rfl) (by kernel_rfl) (fun _ _ _ h => h) (Or.inl ⟨by rfl, ?_⟩) (by assumption) ?_
  rotate_left
  · intro w hSw; (try dsimp only at hSw); (have a0 := hSw.cell (i := 0) rfl); (have a1 := hSw.cell (i := 1) rfl); (have a2 := hSw.cell (i := 2) rfl); (have a3 := hSw.cell (i := 3) rfl); go_simp; first | done | with_reducible rfl
  (try simp only [Act.put, Array.getInternal_eq_getElem, List.getElem_toArray, List.getElem_cons_succ, List.getElem_cons_zero, List.setIfInBounds_toArray, List.set_cons_zero, List.set_cons_succ])
  refine wpAnyH_take (i := 9) (v := ?_) rfl (by kernel_rfl) (by kernel_rfl) (by kernel_rfl) (fun _ _ _ h => h) (Or.inl ⟨by rfl, ?_⟩) (by assumption) ?_
  rotate_left
  · intro w hSw; (try dsimp only at hSw); (have a0 := hSw.cell (i := 0) rfl); (have a1 := hSw.cell (i := 1) rfl); (have a2 := hSw.cell (i := 2) rfl); (have a3 := hSw.cell (i := 3) rfl); go_simp; first | done | with_reducible rfl
  (try simp only [Act.put, Array.getInternal_eq_getElem, List.getElem_toArray, List.getElem_cons_succ, List.getElem_cons_zero, List.setIfInBounds_toArray, List.set_cons_zero, List.set_cons_succ])
  refine wpAnyH_take (i := 10) (v := ?_) rfl (by kernel_rfl) (by kernel_rfl) (by kernel_rfl) (fun _ _ _ h => h) (Or.inl ⟨by rfl, ?_⟩) (by assumption) ?_
  rotate_left
  · intro w hSw; (try dsimp only at hSw); (have a0 := hSw.cell (i := 0) rfl); (have a1 := hSw.cell (i := 1) rfl); (have a2 := hSw.cell (i := 2) rfl); (have a3 := hSw.cell (i := 3) rfl); go_simp; first | done | with_reducible rfl
  (try simp only [Act.put, Array.getInternal_eq_getElem, List.getElem_toArray, List.getElem_cons_succ, List.getElem_cons_zero, List.setIfInBounds_toArray, List.set_cons_zero, List.set_cons_succ])
  refine wpAnyH_take (i := 11) (v := ?_) rfl (by kernel_rfl) (by kernel_rfl) (by kernel_rfl) (fun _ _ _ h => h) (Or.inl ⟨by rfl, ?_⟩) (by assumption) ?_
  rotate_left
  · intro w hSw; (try dsimp only at hSw); (have a0 := hSw.cell (i := 0) rfl); (have a1 := hSw.cell (i := 1) rfl); (have a2 := hSw.cell (i := 2) rfl); (have a3 := hSw.cell (i := 3) rfl); go_simp; first | done | with_reducible rfl
  (try simp only [Act.put, Array.getInternal_eq_getElem, List.getElem_toArray, List.getElem_cons_succ, List.getElem_cons_zero, List.setIfInBounds_toArray, List.set_cons_zero, List.set_cons_succ])
  refine wpAnyH_take (i := 12) (v := ?_) rfl (by kernel_rfl) (by kernel_rfl) (by kernel_rfl) (fun _ _ _ h => h) (Or.inl ⟨by rfl, ?_⟩) (by assumption) ?_
  rotate_left
  · intro w hSw; (try dsimp only at hSw); (have a0 := hSw.cell (i := 0) rfl); (have a1 := hSw.cell (i := 1) rfl); (have a2 := hSw.cell (i := 2) rfl); (have a3 := hSw.cell (i := 3) rfl); go_simp; first | done | with_reducible rfl
  (try simp only [Act.put, Array.getInternal_eq_getElem, List.getElem_toArray, List.getElem_cons_succ, List.getElem_cons_zero, List.setIfInBounds_toArray, List.set_cons_zero, List.set_cons_succ])
  refine wpAnyH_take (i := 13) (v := ?_) rfl (by kernel_rfl) (by kernel_rfl) (by kernel_rfl) (fun _ _ _ h => h) (Or.inl ⟨by rfl, ?_⟩) (by assumption) ?_
  rotate_left
  · intro w hSw; (try dsimp only at hSw); (have a0 := hSw.cell (i := 0) rfl); (have a1 := hSw.cell (i := 1) rfl); (have a2 := hSw.cell (i := 2) rfl); (have a3 := hSw.cell (i := 3) rfl); go_simp; first | done | with_reducible rfl
  (try simp only [Act.put, Array.getInternal_eq_getElem, List.getElem_toArray, List.getElem_cons_succ, List.getElem_cons_zero, List.setIfInBounds_toArray, List.set_cons_zero, List.set_cons_succ])
  refine wpAnyH_take (i := 14) (v := ?_) rfl (by kernel_rfl) (by kernel_rfl) (by kernel_rfl) (fun _ _ _ h => h) (Or.inl ⟨by rfl, ?_⟩) (by assumption) ?_
  rotate_left
  · intro w hSw; (try dsimp only at hSw); (have a0 := hSw.cell (i := 0) rfl); (have a1 := hSw.cell (i := 1) rfl); (have a2 := hSw.cell (i := 2) rfl); (have a3 := hSw.cell (i := 3) rfl); go_simp; first | done | with_reducible rfl
  (try simp only [Act.put, Array.getInternal_eq_getElem, List.getElem_toArray, List.getElem_cons_succ, List.getElem_cons_zero, List.setIfInBounds_toArray, List.set_cons_zero, List.set_cons_succ])
  refine wpAnyH_take (i := 15) (v := ?_) rfl (by kernel_rfl) (by kernel_rfl) (by kernel_rfl) (fun _ _ _ h => h) (Or.inl ⟨by rfl, ?_⟩) (by assumption) ?_
  rotate_left
  · intro w hSw; (try dsimp only at hSw); (have a0 := hSw.cell (i := 0) rfl); (have a1 := hSw.cell (i := 1) rfl); (have a2 := hSw.cell (i := 2) rfl); (have a3 := hSw.cell (i := 3) rfl); go_simp; first | done | with_reducible rfl
  (try simp only [Act.put, Array.getInternal_eq_getElem, List.getElem_toArray, List.getElem_cons_succ, List.getElem_cons_zero, List.setIfInBounds_toArray, List.set_cons_zero, List.set_cons_succ])
  refine wpAnyH_take (i := 16) (v := ?_) rfl (by kernel_rfl) (by kernel_rfl) (by kernel_rfl) (fun _ _ _ h => h) (Or.inl ⟨by rfl, ?_⟩) (by assumption) ?_
  rotate_left
  · intro w hSw; (try dsimp only at hSw); (have a0 := hSw.cell (i := 0) rfl); (have a1 := hSw.cell (i := 1) rfl); (have a2 := hSw.cell (i := 2) rfl); (have a3 := hSw.cell (i := 3) rfl); go_simp; first | done | with_reducible rfl
  (try simp only [Act.put, Array.getInternal_eq_getElem, List.getElem_toArray, List.getElem_cons_succ, List.getElem_cons_zero, List.setIfInBounds_toArray, List.set_cons_zero, List.set_cons_succ])
  refine wpAnyH_take (i := 17) (v := .agg (GeoD.cells ⟨blocks, lbas, first⟩).toArray) rfl (by kernel_rfl) (by kernel_rfl) (by kernel_rfl) (fun _ _ _ h => h) (yieldsIf_load_mid (by rfl) 23 (.tmp 25) rfl b1 4 rfl (GeoD.cells ⟨blocks, lbas, first⟩) _ (fun w h => sup_geo (s := ⟨gen, tail, epoch, clock, ⟨blocks, lbas, first⟩⟩) h) Tryz.underlying23 rfl sizeGeo) (by assumption) ?_
  (try simp only [Act.put, Array.getInternal_eq_getElem, List.getElem_toArray, List.getElem_cons_succ, List.getElem_cons_zero, List.setIfInBounds_toArray, List.set_cons_zero, List.set_cons_succ])
  refine wpAnyH_ready (rs := [18]) (by kernel_rfl) (by simp) ?_
  refine AllReadyH.cons rfl (fun K hK => ?_) AllReadyH.nil
  go_simp
  refine (geomData_walk ⟨blocks, lbas, first⟩ _ HG.out).mono ?_
  rintro e w3 ⟨rfl, hb3⟩
  have HB3 := Lib.hid (HBd.out.below hb3 HBd.out.lt)
  have HBE3 := Lib.hid (HBEd.out.trans (hb3.mono HBEd.out.size))
  clear hb3
  (try go_wp2_with fail)
  refine hK.out _ _ (HB3.out) (fun hHeld2 => ?_)
  clear hK K hHeld
  have hHeld := hHeld2
  clear hHeld2
  (try simp only [Act.put, Array.getInternal_eq_getElem, List.getElem_toArray, List.getElem_cons_succ, List.getElem_cons_zero, List.setIfInBounds_toArray, List.set_cons_zero, List.set_cons_succ])
  refine wpAnyH_take (i := 19) (v := ?_) rfl (by kernel_rfl) (by kernel_rfl) (by kernel_rfl) (fun _ _ _ h => h) (Or.inl ⟨by rfl, ?_⟩) (by assumption) ?_
  rotate_left
  · intro w hSw; (try dsimp only at hSw); (have a0 := hSw.cell (i := 0) rfl); (have a1 := hSw.cell (i := 1) rfl); (have a2 := hSw.cell (i := 2) rfl); (have a3 := hSw.cell (i := 3) rfl); go_simp; first | done | with_reducible rfl
  (try simp only [Act.put, Array.getInternal_eq_getElem, List.getElem_toArray, List.getElem_cons_succ, List.getElem_cons_zero, List.setIfInBounds_toArray, List.set_cons_zero, List.set_cons_succ])
  refine wpAnyH_take (i := 20) (v := ?_) rfl (by kernel_rfl) (by kernel_rfl) (by kernel_rfl) (fun _ _ _ h => h) (Or.inl ⟨by rfl, ?_⟩) (by assumption) ?_
  rotate_left
  · intro w hSw; (try dsimp only at hSw); (have a0 := hSw.cell (i := 0) rfl); (have a1 := hSw.cell (i := 1) rfl); (have a2 := hSw.cell (i := 2) rfl); (have a3 := hSw.cell (i := 3) rfl); go_simp; first | done | with_reducible rfl
  (try simp only [Act.put, Array.getInternal_eq_getElem, List.getElem_toArray, List.getElem_cons_succ, List.getElem_cons_zero, List.setIfInBounds_toArray, List.set_cons_zero, List.set_cons_succ])
  refine wpAnyH_take (i := 21) (v := ?_) rfl (by kernel_rfl) (by kernel_rfl) (by kernel_rfl) (fun _ _ _ h => h) (Or.inl ⟨by rfl, ?_⟩) (by assumption) ?_
  rotate_left
  · intro w hSw; (try dsimp only at hSw); (have a0 := hSw.cell (i := 0) rfl); (have a1 := hSw.cell (i := 1) rfl); (have a2 := hSw.cell (i := 2) rfl); (have a3 := hSw.cell (i := 3) rfl); go_simp; first | done | with_reducible rfl
  (try simp only [Act.put, Array.getInternal_eq_getElem, List.getElem_toArray, List.getElem_cons_succ, List.getElem_cons_zero, List.setIfInBounds_toArray, List.set_cons_zero, List.set_cons_succ])
  refine wpAnyH_done (by kernel_rfl) ?_ _
  have q2 := HB3.out.cell (i := 2) rfl
  have q3 := HB3.out.cell (i := 3) rfl
  have q6 := HB3.out.cell (i := 6) rfl
  go_wp2_with fail
  go_ret
  exact ⟨rfl, HBE3.out⟩
set_option maxHeartbeats 4000000 in
theorem supPut_walk (s : SupD) (w : World) (hs : SupOk s) :
    Calls Tryz.prog 242 #[s.v] w fun e w' => ∃ r, e = .returned (.tuple #[.string r, .int .i64 0]) ∧ Txt r (supL s) ∧ Below w.heap.size w w' := by
  go_enter Tryz.func242, Tryz.ntmps242
  go_wp2_with (first
    | ((with_reducible refine wpList_box_new 135 (.tmp 0) s.cells (some 1) ?hgd ?ho ?hd ?hx ?_); (case hgd | ho | hd | hx => rfl); (intro b1 w1 l1 B1 e1 z1))
    | ((with_reducible refine wpList_load_met 135 (.tmp 1) b1 0 s.cells _ (some 10) B1.range Tryz.underlying135 rfl sizeSup ?hg ?ho ?hds ?hx ?_); (case ho | hg | hds | hx => rfl))
    | fail)
  refine (supCheck_walk s _ hs).mono ?_
  rintro e w2 ⟨rfl, hb2⟩
  have HB2 := Lib.hid (B1.below hb2 z1)
  have HBE2 := Lib.hid ((e1.mono l1).trans (hb2.mono (Nat.le_trans l1 (Nat.le_of_lt z1))))
  clear hb2 B1 e1
  go_upto_region 4 with fail
  refine wp_region_held_drew (S := fun wx => Blk wx b1 s.cells 135) (by kernel_rfl) (HB2.out.drew) (fun hHeld => ?_)
  obtain ⟨wd, hwd⟩ : ∃ wd, wd = w2.drew := ⟨_, rfl⟩
  have HBwd := Lib.hid (show Blk wd b1 s.cells 135 from by rw [hwd]; exact HB2.out.drew)
  have HBEwd : Hid (Below w.heap.size w wd) := Lib.hid (by rw [hwd]; exact HBE2.out.drew)
  rw [← hwd]
  rw [← hwd] at hHeld
  clear hwd
  refine wpAnyH_take (i := 1) (v := ?_) rfl (by kernel_rfl) (by kernel_rfl) (by kernel_rfl) (fun _ _ _ h => h) (Or.inl ⟨by rfl, ?_⟩) (by assumption) ?_
  rotate_left
  · intro w hSw; (try dsimp only at hSw); (have a0 := hSw.cell (i := 0) rfl); (have a1 := hSw.cell (i := 1) rfl); (have a2 := hSw.cell (i := 2) rfl); (have a3 := hSw.cell (i := 3) rfl); go_simp; first | done | with_reducible rfl
  (try simp only [Act.put, Array.getInternal_eq_getElem, List.getElem_toArray, List.getElem_cons_succ, List.getElem_cons_zero, List.setIfInBounds_toArray, List.set_cons_zero, List.set_cons_succ])
  refine wpAnyH_take (i := 2) (v := ?_) rfl (by kernel_rfl) (by kernel_rfl) (by kernel_rfl) (fun _ _ _ h => h) (Or.inl ⟨by rfl, ?_⟩) (by assumption) ?_
  rotate_left
  · intro w hSw; (try dsimp only at hSw); (have a0 := hSw.cell (i := 0) rfl); (have a1 := hSw.cell (i := 1) rfl); (have a2 := hSw.cell (i := 2) rfl); (have a3 := hSw.cell (i := 3) rfl); go_simp; first | done | with_reducible rfl
  (try simp only [Act.put, Array.getInternal_eq_getElem, List.getElem_toArray, List.getElem_cons_succ, List.getElem_cons_zero, List.setIfInBounds_toArray, List.set_cons_zero, List.set_cons_succ])
  refine wpAnyH_take (i := 3) (v := ?_) rfl (by kernel_rfl) (by kernel_rfl) (by kernel_rfl) (fun _ _ _ h => h) (Or.inl ⟨by rfl, ?_⟩) (by assumption) ?_
  rotate_left
  · intro w hSw; (try dsimp only at hSw); (have a0 := hSw.cell (i := 0) rfl); (have a1 := hSw.cell (i := 1) rfl); (have a2 := hSw.cell (i := 2) rfl); (have a3 := hSw.cell (i := 3) rfl); go_simp; first | done | with_reducible rfl
  (try simp only [Act.put, Array.getInternal_eq_getElem, List.getElem_toArray, List.getElem_cons_succ, List.getElem_cons_zero, List.setIfInBounds_toArray, List.set_cons_zero, List.set_cons_succ])
  refine wpAnyH_take (i := 4) (v := ?_) rfl (by kernel_rfl) (by kernel_rfl) (by kernel_rfl) (fun _ _ _ h => h) (Or.inl ⟨by rfl, ?_⟩) (by assumption) ?_
  rotate_left
  · intro w hSw; (try dsimp only at hSw); (have a0 := hSw.cell (i := 0) rfl); (have a1 := hSw.cell (i := 1) rfl); (have a2 := hSw.cell (i := 2) rfl); (have a3 := hSw.cell (i := 3) rfl); go_simp; first | done | with_reducible rfl
  (try simp only [Act.put, Array.getInternal_eq_getElem, List.getElem_toArray, List.getElem_cons_succ, List.getElem_cons_zero, List.setIfInBounds_toArray, List.set_cons_zero, List.set_cons_succ])
  refine wpAnyH_take (i := 5) (v := ?_) rfl (by kernel_rfl) (by kernel_rfl) (by kernel_rfl) (fun _ _ _ h => h) (Or.inl ⟨by rfl, ?_⟩) (by assumption) ?_
  rotate_left
  · intro w hSw; (try dsimp only at hSw); (have a0 := hSw.cell (i := 0) rfl); (have a1 := hSw.cell (i := 1) rfl); (have a2 := hSw.cell (i := 2) rfl); (have a3 := hSw.cell (i := 3) rfl); go_simp; first | done | with_reducible rfl
  (try simp only [Act.put, Array.getInternal_eq_getElem, List.getElem_toArray, List.getElem_cons_succ, List.getElem_cons_zero, List.setIfInBounds_toArray, List.set_cons_zero, List.set_cons_succ])
  refine wpAnyH_take (i := 6) (v := ?_) rfl (by kernel_rfl) (by kernel_rfl) (by kernel_rfl) (fun _ _ _ h => h) (Or.inl ⟨by rfl, ?_⟩) (by assumption) ?_
  rotate_left
  · intro w hSw; (try dsimp only at hSw); (have a0 := hSw.cell (i := 0) rfl); (have a1 := hSw.cell (i := 1) rfl); (have a2 := hSw.cell (i := 2) rfl); (have a3 := hSw.cell (i := 3) rfl); go_simp; first | done | with_reducible rfl
  (try simp only [Act.put, Array.getInternal_eq_getElem, List.getElem_toArray, List.getElem_cons_succ, List.getElem_cons_zero, List.setIfInBounds_toArray, List.set_cons_zero, List.set_cons_succ])
  refine wpAnyH_take (i := 7) (v := ?_) rfl (by kernel_rfl) (by kernel_rfl) (by kernel_rfl) (fun _ _ _ h => h) (Or.inl ⟨by rfl, ?_⟩) (by assumption) ?_
  rotate_left
  · intro w hSw; (try dsimp only at hSw); (have a0 := hSw.cell (i := 0) rfl); (have a1 := hSw.cell (i := 1) rfl); (have a2 := hSw.cell (i := 2) rfl); (have a3 := hSw.cell (i := 3) rfl); go_simp; first | done | with_reducible rfl
  (try simp only [Act.put, Array.getInternal_eq_getElem, List.getElem_toArray, List.getElem_cons_succ, List.getElem_cons_zero, List.setIfInBounds_toArray, List.set_cons_zero, List.set_cons_succ])
  refine wpAnyH_take (i := 8) (v := ?_) rfl (by kernel_rfl) (by kernel_rfl) (by kernel_rfl) (fun _ _ _ h => h) (Or.inl ⟨by rfl, ?_⟩) (by assumption) ?_
  rotate_left
  · intro w hSw; (try dsimp only at hSw); (have a0 := hSw.cell (i := 0) rfl); (have a1 := hSw.cell (i := 1) rfl); (have a2 := hSw.cell (i := 2) rfl); (have a3 := hSw.cell (i := 3) rfl); go_simp; first | done | with_reducible rfl
  (try simp only [Act.put, Array.getInternal_eq_getElem, List.getElem_toArray, List.getElem_cons_succ, List.getElem_cons_zero, List.setIfInBounds_toArray, List.set_cons_zero, List.set_cons_succ])
  refine wpAnyH_ready (rs := [0, 9]) (by kernel_rfl) (by simp) ?_
  refine AllReadyH.cons rfl (fun K hK => ?_) (AllReadyH.cons rfl (fun K hK => ?_) AllReadyH.nil)
  · go_simp
    refine (supWidths_walk _).mono ?_
    rintro e wa ⟨⟨vw, rfl, hvw⟩, hb3⟩
    have HBwa := Lib.hid (HBwd.out.below hb3 HBwd.out.lt)
    have HBEwa := Lib.hid (HBEwd.out.trans (hb3.mono HBEwd.out.size))
    have HVWwa := Lib.hid hvw
    skip
    clear hb3 hvw
    (try go_wp2_with fail)
    refine hK.out _ _ (HBwa.out) (fun hHeld2 => ?_)
    clear hK K hHeld
    have hHeld := hHeld2
    clear hHeld2
    (try simp only [Act.put, Array.getInternal_eq_getElem, List.getElem_toArray, List.getElem_cons_succ, List.getElem_cons_zero, List.setIfInBounds_toArray, List.set_cons_zero, List.set_cons_succ])
    refine wpAnyH_ready (rs := [9]) (by kernel_rfl) (by simp) ?_
    refine AllReadyH.cons rfl (fun K hK => ?_) AllReadyH.nil
    go_simp
    obtain ⟨wb, hw4⟩ : ∃ w4, w4 = wa.alloc (Obj.cells #[Value.int IntKind.i64 s.gen, Value.int IntKind.i64 s.tail, Value.int IntKind.i64 s.epoch, Value.int IntKind.i64 s.clock] 3) := ⟨_, rfl⟩
    rw [← hw4]
    have hb4 : Below wa.heap.size wa wb := by rw [hw4]; exact (Below.refl _ _).alloc (Nat.le_refl _) _
    have B4 : Blk wb wa.heap.size [.int .i64 s.gen, .int .i64 s.tail, .int .i64 s.epoch, .int .i64 s.clock] 3 := by rw [hw4]; exact Blk.new wa _ _
    have HGwb := Lib.hid B4
    have HBwb := Lib.hid (HBwa.out.below hb4 HBwa.out.lt)
    have HBEwb := Lib.hid (HBEwa.out.trans (hb4.mono HBEwa.out.size))
    have HVWwb := Lib.hid (HVWwa.out.below hb4 (Nat.le_refl _))
    clear hb4 B4 hw4
    (try go_wp2_with fail)
    refine hK.out _ _ (HBwb.out) (fun hHeld2 => ?_)
    clear hK K hHeld
    have hHeld := hHeld2
    clear hHeld2
    (try simp only [Act.put, Array.getInternal_eq_getElem, List.getElem_toArray, List.getElem_cons_succ, List.getElem_cons_zero, List.setIfInBounds_toArray, List.set_cons_zero, List.set_cons_succ])
    refine wpAnyH_ready (rs := [10]) (by kernel_rfl) (by simp) ?_
    refine AllReadyH.cons rfl (fun K hK => ?_) AllReadyH.nil
    go_simp
    refine (opack_walk _ _ widths10 [s.gen, s.tail, s.epoch, s.clock] _ HVWwb.out (IntRow.blk (xs := [s.gen, s.tail, s.epoch, s.clock]) HGwb.out rfl 4) (by show 0 < 4; decide) (by show 4 ≤ 16; decide) (supPack hs)).mono ?_
    rintro e wp ⟨r, rfl, tr, hb5⟩
    have HBp := Lib.hid (HBwb.out.below hb5 HBwb.out.lt)
    have HBEp := Lib.hid (HBEwb.out.trans (hb5.mono HBEwb.out.size))
    have HTR := Lib.hid (show Txt r (beBytes 8 s.gen.toNat ++ beBytes 4 s.tail.toNat ++ beBytes 4 s.epoch.toNat ++ beBytes 8 s.clock.toNat) from by rw [← supL_pack]; exact tr)
    clear hb5 tr
    (try go_wp2_with fail)
    refine hK.out _ _ (HBp.out) (fun hHeld2 => ?_)
    clear hK K hHeld
    have hHeld := hHeld2
    clear hHeld2
    (try simp only [Act.put, Array.getInternal_eq_getElem, List.getElem_toArray, List.getElem_cons_succ, List.getElem_cons_zero, List.setIfInBounds_toArray, List.set_cons_zero, List.set_cons_succ])
    refine wpAnyH_take (i := 11) (v := ?_) rfl (by kernel_rfl) (by kernel_rfl) (by kernel_rfl) (fun _ _ _ h => h) (Or.inl ⟨by rfl, ?_⟩) (by assumption) ?_
    rotate_left
    · intro w hSw; (try dsimp only at hSw); (have a0 := hSw.cell (i := 0) rfl); (have a1 := hSw.cell (i := 1) rfl); (have a2 := hSw.cell (i := 2) rfl); (have a3 := hSw.cell (i := 3) rfl); go_simp; first | done | with_reducible rfl
    (try simp only [Act.put, Array.getInternal_eq_getElem, List.getElem_toArray, List.getElem_cons_succ, List.getElem_cons_zero, List.setIfInBounds_toArray, List.set_cons_zero, List.set_cons_succ])
    refine wpAnyH_take (i := 12) (v := ?_) rfl (by kernel_rfl) (by kernel_rfl) (by kernel_rfl) (fun _ _ _ h => h) (Or.inl ⟨by rfl, ?_⟩) (by assumption) ?_
    rotate_left
    · intro w hSw; (try dsimp only at hSw); (have a0 := hSw.cell (i := 0) rfl); (have a1 := hSw.cell (i := 1) rfl); (have a2 := hSw.cell (i := 2) rfl); (have a3 := hSw.cell (i := 3) rfl); go_simp; first | done | with_reducible rfl
    (try simp only [Act.put, Array.getInternal_eq_getElem, List.getElem_toArray, List.getElem_cons_succ, List.getElem_cons_zero, List.setIfInBounds_toArray, List.set_cons_zero, List.set_cons_succ])
    refine wpAnyH_take (i := 13) (v := ?_) rfl (by kernel_rfl) (by kernel_rfl) (by kernel_rfl) (fun _ _ _ h => h) (Or.inl ⟨by rfl, ?_⟩) (by assumption) ?_
    rotate_left
    · intro w hSw; (try dsimp only at hSw); (have a0 := hSw.cell (i := 0) rfl); (have a1 := hSw.cell (i := 1) rfl); (have a2 := hSw.cell (i := 2) rfl); (have a3 := hSw.cell (i := 3) rfl); go_simp; first | done | with_reducible rfl
    (try simp only [Act.put, Array.getInternal_eq_getElem, List.getElem_toArray, List.getElem_cons_succ, List.getElem_cons_zero, List.setIfInBounds_toArray, List.set_cons_zero, List.set_cons_succ])
    refine wpAnyH_take (i := 14) (v := ?_) rfl (by kernel_rfl) (by kernel_rfl) (by kernel_rfl) (fun _ _ _ h => h) (Or.inl ⟨by rfl, ?_⟩) (by assumption) ?_
    rotate_left
    · intro w hSw; (try dsimp only at hSw); (have a0 := hSw.cell (i := 0) rfl); (have a1 := hSw.cell (i := 1) rfl); (have a2 := hSw.cell (i := 2) rfl); (have a3 := hSw.cell (i := 3) rfl); go_simp; first | done | with_reducible rfl
    (try simp only [Act.put, Array.getInternal_eq_getElem, List.getElem_toArray, List.getElem_cons_succ, List.getElem_cons_zero, List.setIfInBounds_toArray, List.set_cons_zero, List.set_cons_succ])
    refine wpAnyH_take (i := 15) (v := ?_) rfl (by kernel_rfl) (by kernel_rfl) (by kernel_rfl) (fun _ _ _ h => h) (Or.inl ⟨by rfl, ?_⟩) (by assumption) ?_
    rotate_left
    · intro w hSw; (try dsimp only at hSw); (have a0 := hSw.cell (i := 0) rfl); (have a1 := hSw.cell (i := 1) rfl); (have a2 := hSw.cell (i := 2) rfl); (have a3 := hSw.cell (i := 3) rfl); go_simp; first | done | with_reducible rfl
    (try simp only [Act.put, Array.getInternal_eq_getElem, List.getElem_toArray, List.getElem_cons_succ, List.getElem_cons_zero, List.setIfInBounds_toArray, List.set_cons_zero, List.set_cons_succ])
    refine wpAnyH_done (by kernel_rfl) ?_ _
    go_wp2_with (first
      | ((with_reducible refine wpList_load_met 23 (.tmp 30) b1 4 s.geo.cells _ (some 31) (sup_geo HBp.out) Tryz.underlying23 rfl sizeGeo ?hg ?ho ?hds ?hx ?_); (case ho | hg | hds | hx => rfl))
      | fail)
    refine (geomPut_walk s.geo _ hs.geo).mono ?_
    rintro e w6 ⟨g, rfl, tg, hb6⟩
    have HTG := Lib.hid tg
    have HBE6 := Lib.hid (HBEp.out.trans (hb6.mono HBEp.out.size))
    clear tg hb6
    have hr : r.size = 24 := by rw [HTR.out.size]; simp [beBytes_length]
    have hg : g.size = 12 := by rw [HTG.out.size, geoL_length]
    go_upto_region 7 with fail
    obtain ⟨t, ht⟩ : ∃ t, (⟨#[107, 101, 101, 112, 115, 97, 107, 101, 49]⟩ : ByteArray) ++ r ++ g = t := ⟨_, rfl⟩
    rw [ht]
    have hts : t.size = 45 := by rw [← ht, ByteArray.size_append, ByteArray.size_append, hr, hg]; rfl
    have HTT := Lib.hid (show Txt t (supHead s) by rw [← ht]; exact ((show Txt (⟨#[107, 101, 101, 112, 115, 97, 107, 101, 49]⟩ : ByteArray) markS from rfl).append HTR.out).append HTG.out)
    clear ht hr hg
    go_wp2_with fail
    refine (sum_one t _ _ (by omega)).mono ?_
    rintro e w7 ⟨q, rfl, tq, hb7⟩
    have hq : q.size = 32 := by rw [tq.size, sha_length]
    have HTQ := Lib.hid (show Txt q (sha (supHead s)) from tq.cast (by rw [show t.data.toList = _ from HTT.out]))
    have HBE7 := Lib.hid (HBE6.out.trans (hb7.mono HBE6.out.size))
    clear tq hb7
    go_wp2_with fail
    refine (ofill_walk (t ++ q) 4096 _ (by rw [ByteArray.size_append, hts, hq]; decide) (by decide)).mono ?_
    rintro e w8 ⟨z, rfl, tz, hb8⟩
    have HBE8 := Lib.hid (HBE7.out.trans (hb8.mono HBE7.out.size))
    have HTZ := Lib.hid (show Txt z (supL s) from tz.cast (by unfold supL; rw [show (t ++ q).data.toList = _ from HTT.out.append HTQ.out]))
    clear tz hb8
    go_wp2_with fail
    go_ret2
    exact ⟨z, rfl, HTZ.out, HBE8.out⟩
  · go_simp
    obtain ⟨wa, hw4⟩ : ∃ w4, w4 = wd.alloc (Obj.cells #[Value.int IntKind.i64 s.gen, Value.int IntKind.i64 s.tail, Value.int IntKind.i64 s.epoch, Value.int IntKind.i64 s.clock] 3) := ⟨_, rfl⟩
    rw [← hw4]
    have hb4 : Below wd.heap.size wd wa := by rw [hw4]; exact (Below.refl _ _).alloc (Nat.le_refl _) _
    have B4 : Blk wa wd.heap.size [.int .i64 s.gen, .int .i64 s.tail, .int .i64 s.epoch, .int .i64 s.clock] 3 := by rw [hw4]; exact Blk.new wd _ _
    have HGwa := Lib.hid B4
    have HBwa := Lib.hid (HBwd.out.below hb4 HBwd.out.lt)
    have HBEwa := Lib.hid (HBEwd.out.trans (hb4.mono HBEwd.out.size))
    skip
    clear hb4 B4 hw4
    (try go_wp2_with fail)
    refine hK.out _ _ (HBwa.out) (fun hHeld2 => ?_)
    clear hK K hHeld
    have hHeld := hHeld2
    clear hHeld2
    (try simp only [Act.put, Array.getInternal_eq_getElem, List.getElem_toArray, List.getElem_cons_succ, List.getElem_cons_zero, List.setIfInBounds_toArray, List.set_cons_zero, List.set_cons_succ])
    refine wpAnyH_ready (rs := [0]) (by kernel_rfl) (by simp) ?_
    refine AllReadyH.cons rfl (fun K hK => ?_) AllReadyH.nil
    go_simp
    refine (supWidths_walk _).mono ?_
    rintro e wb ⟨⟨vw, rfl, hvw⟩, hb3⟩
    have HBwb := Lib.hid (HBwa.out.below hb3 HBwa.out.lt)
    have HBEwb := Lib.hid (HBEwa.out.trans (hb3.mono HBEwa.out.size))
    have HVWwb := Lib.hid hvw
    have HGwb := Lib.hid (HGwa.out.below hb3 HGwa.out.lt)
    clear hb3 hvw
    (try go_wp2_with fail)
    refine hK.out _ _ (HBwb.out) (fun hHeld2 => ?_)
    clear hK K hHeld
    have hHeld := hHeld2
    clear hHeld2
    (try simp only [Act.put, Array.getInternal_eq_getElem, List.getElem_toArray, List.getElem_cons_succ, List.getElem_cons_zero, List.setIfInBounds_toArray, List.set_cons_zero, List.set_cons_succ])
    refine wpAnyH_ready (rs := [10]) (by kernel_rfl) (by simp) ?_
    refine AllReadyH.cons rfl (fun K hK => ?_) AllReadyH.nil
    go_simp
    refine (opack_walk _ _ widths10 [s.gen, s.tail, s.epoch, s.clock] _ HVWwb.out (IntRow.blk (xs := [s.gen, s.tail, s.epoch, s.clock]) HGwb.out rfl 4) (by show 0 < 4; decide) (by show 4 ≤ 16; decide) (supPack hs)).mono ?_
    rintro e wp ⟨r, rfl, tr, hb5⟩
    have HBp := Lib.hid (HBwb.out.below hb5 HBwb.out.lt)
    have HBEp := Lib.hid (HBEwb.out.trans (hb5.mono HBEwb.out.size))
    have HTR := Lib.hid (show Txt r (beBytes 8 s.gen.toNat ++ beBytes 4 s.tail.toNat ++ beBytes 4 s.epoch.toNat ++ beBytes 8 s.clock.toNat) from by rw [← supL_pack]; exact tr)
    clear hb5 tr
    (try go_wp2_with fail)
    refine hK.out _ _ (HBp.out) (fun hHeld2 => ?_)
    clear hK K hHeld
    have hHeld := hHeld2
    clear hHeld2
    (try simp only [Act.put, Array.getInternal_eq_getElem, List.getElem_toArray, List.getElem_cons_succ, List.getElem_cons_zero, List.setIfInBounds_toArray, List.set_cons_zero, List.set_cons_succ])
    refine wpAnyH_take (i := 11) (v := ?_) rfl (by kernel_rfl) (by kernel_rfl) (by kernel_rfl) (fun _ _ _ h => h) (Or.inl ⟨by rfl, ?_⟩) (by assumption) ?_
    rotate_left
    · intro w hSw; (try dsimp only at hSw); (have a0 := hSw.cell (i := 0) rfl); (have a1 := hSw.cell (i := 1) rfl); (have a2 := hSw.cell (i := 2) rfl); (have a3 := hSw.cell (i := 3) rfl); go_simp; first | done | with_reducible rfl
    (try simp only [Act.put, Array.getInternal_eq_getElem, List.getElem_toArray, List.getElem_cons_succ, List.getElem_cons_zero, List.setIfInBounds_toArray, List.set_cons_zero, List.set_cons_succ])
    refine wpAnyH_take (i := 12) (v := ?_) rfl (by kernel_rfl) (by kernel_rfl) (by kernel_rfl) (fun _ _ _ h => h) (Or.inl ⟨by rfl, ?_⟩) (by assumption) ?_
    rotate_left
    · intro w hSw; (try dsimp only at hSw); (have a0 := hSw.cell (i := 0) rfl); (have a1 := hSw.cell (i := 1) rfl); (have a2 := hSw.cell (i := 2) rfl); (have a3 := hSw.cell (i := 3) rfl); go_simp; first | done | with_reducible rfl
    (try simp only [Act.put, Array.getInternal_eq_getElem, List.getElem_toArray, List.getElem_cons_succ, List.getElem_cons_zero, List.setIfInBounds_toArray, List.set_cons_zero, List.set_cons_succ])
    refine wpAnyH_take (i := 13) (v := ?_) rfl (by kernel_rfl) (by kernel_rfl) (by kernel_rfl) (fun _ _ _ h => h) (Or.inl ⟨by rfl, ?_⟩) (by assumption) ?_
    rotate_left
    · intro w hSw; (try dsimp only at hSw); (have a0 := hSw.cell (i := 0) rfl); (have a1 := hSw.cell (i := 1) rfl); (have a2 := hSw.cell (i := 2) rfl); (have a3 := hSw.cell (i := 3) rfl); go_simp; first | done | with_reducible rfl
    (try simp only [Act.put, Array.getInternal_eq_getElem, List.getElem_toArray, List.getElem_cons_succ, List.getElem_cons_zero, List.setIfInBounds_toArray, List.set_cons_zero, List.set_cons_succ])
    refine wpAnyH_take (i := 14) (v := ?_) rfl (by kernel_rfl) (by kernel_rfl) (by kernel_rfl) (fun _ _ _ h => h) (Or.inl ⟨by rfl, ?_⟩) (by assumption) ?_
    rotate_left
    · intro w hSw; (try dsimp only at hSw); (have a0 := hSw.cell (i := 0) rfl); (have a1 := hSw.cell (i := 1) rfl); (have a2 := hSw.cell (i := 2) rfl); (have a3 := hSw.cell (i := 3) rfl); go_simp; first | done | with_reducible rfl
    (try simp only [Act.put, Array.getInternal_eq_getElem, List.getElem_toArray, List.getElem_cons_succ, List.getElem_cons_zero, List.setIfInBounds_toArray, List.set_cons_zero, List.set_cons_succ])
    refine wpAnyH_take (i := 15) (v := ?_) rfl (by kernel_rfl) (by kernel_rfl) (by kernel_rfl) (fun _ _ _ h => h) (Or.inl ⟨by rfl, ?_⟩) (by assumption) ?_
    rotate_left
    · intro w hSw; (try dsimp only at hSw); (have a0 := hSw.cell (i := 0) rfl); (have a1 := hSw.cell (i := 1) rfl); (have a2 := hSw.cell (i := 2) rfl); (have a3 := hSw.cell (i := 3) rfl); go_simp; first | done | with_reducible rfl
    (try simp only [Act.put, Array.getInternal_eq_getElem, List.getElem_toArray, List.getElem_cons_succ, List.getElem_cons_zero, List.setIfInBounds_toArray, List.set_cons_zero, List.set_cons_succ])
    refine wpAnyH_done (by kernel_rfl) ?_ _
    go_wp2_with (first
      | ((with_reducible refine wpList_load_met 23 (.tmp 30) b1 4 s.geo.cells _ (some 31) (sup_geo HBp.out) Tryz.underlying23 rfl sizeGeo ?hg ?ho ?hds ?hx ?_); (case ho | hg | hds | hx => rfl))
      | fail)
    refine (geomPut_walk s.geo _ hs.geo).mono ?_
    rintro e w6 ⟨g, rfl, tg, hb6⟩
    have HTG := Lib.hid tg
    have HBE6 := Lib.hid (HBEp.out.trans (hb6.mono HBEp.out.size))
    clear tg hb6
    have hr : r.size = 24 := by rw [HTR.out.size]; simp [beBytes_length]
    have hg : g.size = 12 := by rw [HTG.out.size, geoL_length]
    go_upto_region 7 with fail
    obtain ⟨t, ht⟩ : ∃ t, (⟨#[107, 101, 101, 112, 115, 97, 107, 101, 49]⟩ : ByteArray) ++ r ++ g = t := ⟨_, rfl⟩
    rw [ht]
    have hts : t.size = 45 := by rw [← ht, ByteArray.size_append, ByteArray.size_append, hr, hg]; rfl
    have HTT := Lib.hid (show Txt t (supHead s) by rw [← ht]; exact ((show Txt (⟨#[107, 101, 101, 112, 115, 97, 107, 101, 49]⟩ : ByteArray) markS from rfl).append HTR.out).append HTG.out)
    clear ht hr hg
    go_wp2_with fail
    refine (sum_one t _ _ (by omega)).mono ?_
    rintro e w7 ⟨q, rfl, tq, hb7⟩
    have hq : q.size = 32 := by rw [tq.size, sha_length]
    have HTQ := Lib.hid (show Txt q (sha (supHead s)) from tq.cast (by rw [show t.data.toList = _ from HTT.out]))
    have HBE7 := Lib.hid (HBE6.out.trans (hb7.mono HBE6.out.size))
    clear tq hb7
    go_wp2_with fail
    refine (ofill_walk (t ++ q) 4096 _ (by rw [ByteArray.size_append, hts, hq]; decide) (by decide)).mono ?_
    rintro e w8 ⟨z, rfl, tz, hb8⟩
    have HBE8 := Lib.hid (HBE7.out.trans (hb8.mono HBE7.out.size))
    have HTZ := Lib.hid (show Txt z (supL s) from tz.cast (by unfold supL; rw [show (t ++ q).data.toList = _ from HTT.out.append HTQ.out]))
    clear tz hb8
    go_wp2_with fail
    go_ret2
    exact ⟨z, rfl, HTZ.out, HBE8.out⟩
end Go.Proofs.YtppdboadjefieaaGreat

