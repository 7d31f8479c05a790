/- The looks of chapter 33's law: same, a key's block, the example. -/
import Derived.Test.YtppdboadjefieaaGreatSim2
import Derived.Test.YtppdboadjefieaaGreatG4
import Derived.Test.YtppdboadjefieaaGreatG3
namespace Go.Proofs.YtppdboadjefieaaGreat
set_option linter.unusedSimpArgs false
set_option linter.unusedVariables false
open Go Go.RowKit
set_option linter.unusedVariables false
set_option maxRecDepth 100000

theorem kright_walk (n : Int) (w : World) (h0 : 0 ≤ n) (h1 : n < 4294967296) :
    Calls Tryz.prog 104 #[.int .i64 n] w fun e w' => e = .returned (.bool true) ∧ w = w' := by
  go_enter Tryz.func104, Tryz.ntmps104
  go_wp2_with fail
  go_ret
  exact ⟨ret_b (by simp; omega), rfl⟩
set_option maxHeartbeats 1000000 in
/-- A key's block. -/
theorem kput_walk (n : Nat) (key : ByteArray) (w : World) (hn : n < 4294967296) (hk : key.size = 32) :
    Calls Tryz.prog 39 #[.int .i64 (n : Int), .string key] w fun e w' => (∃ r, e = .returned (.tuple #[.string r, .bool true]) ∧ Txt r (keyL (n : Int) key.data.toList)) ∧ Below w.heap.size w w' := by
  have hk' : (key.size : Int) = 32 := by omega
  have HN := Lib.hid hn
  have HK := Lib.hid hk
  clear hn hk
  go_enter Tryz.func39, Tryz.ntmps39
  go_wp2_with fail
  refine (kright_walk (n : Int) _ (by omega) (by have := HN.out; omega)).mono ?_
  rintro e w' ⟨rfl, rfl⟩
  go_wp2_with fail
  refine (rput_walk (n : Int) 4 _ (by have := HN.out; omega)).mono ?_
  rintro e w1 ⟨he, hb1⟩
  obtain ⟨r, rfl, tr⟩ := he.yes ⟨by omega, by decide, by decide, by have := HN.out; simp; omega⟩
  have HBE1 := Lib.hid hb1
  have hr : r.size = 4 := by rw [tr.size, beBytes_length]; rfl
  have HTR := Lib.hid tr
  obtain ⟨hd, hhd⟩ : ∃ hd : ByteArray, (⟨#[107, 101, 121]⟩ : ByteArray) ++ r ++ key = hd := ⟨_, rfl⟩
  have HHD := Lib.hid (show Txt hd (keyHead (n : Int) key.data.toList) from by
    rw [← hhd]
    refine ((Txt.append (Txt.append (Txt.mk [107, 101, 121]) tr) (Txt.self key)).cast ?_)
    unfold keyHead markK
    simp)
  have hhs : hd.size = 39 := by rw [HHD.out.size]; unfold keyHead markK; simp [beBytes_length]; have := HK.out; omega
  have HHE := Lib.hid hhd
  have HHS := Lib.hid hhs
  have hr' : (r.size : Int) = 4 := by omega
  have hhs' : (hd.size : Int) = 39 := by omega
  clear he hb1 tr hhd hhs hr
  go_wp2_with fail
  rw [HHE.out]
  refine (rsum_walk hd _ (by rw [HHS.out]; decide)).mono ?_
  rintro e w2 ⟨s, rfl, ts, hb2⟩
  have HBE2 := Lib.hid (HBE1.out.trans (hb2.mono HBE1.out.size))
  have hs : s.size = 32 := by rw [ts.size, sha_length]
  have hs' : (s.size : Int) = 32 := by omega
  have HTS := Lib.hid ts
  clear ts hb2
  go_wp2_with fail
  refine (noughts_walk 4025 _ (by decide) (by decide)).mono ?_
  rintro e w3 ⟨z, rfl, tz, hb3⟩
  have HBE3 := Lib.hid (HBE2.out.trans (hb3.mono HBE2.out.size))
  have HTZ := Lib.hid tz
  have hz' : (z.size : Int) = 4025 := by have := tz.size; simp at this; omega
  clear tz hb3
  go_wp2_with fail
  go_ret2
  refine ⟨⟨_, rfl, ((HHD.out.append HTS.out).append HTZ.out).cast ?_⟩, HBE3.out⟩
  rw [show hd.data.toList = keyHead (n : Int) key.data.toList from HHD.out]
  unfold keyL fillL
  congr 2
  rw [List.length_append, sha_length, show (keyHead (n : Int) key.data.toList).length = 39 from by rw [← HHD.out.size]; exact HHS.out]
  rfl
set_option maxHeartbeats 1000000 in
/-- Two rows of the same texts are the same. -/
theorem texts_same (v1 v2 : Value) (b1 b2 n : Nat) (xs : List ByteArray) (w : World) (h1 : w.ownsRow b1 9 1 v1 n (xs.map .string)) (h2 : w.ownsRow b2 9 1 v2 n (xs.map .string)) (hn : n ≤ 4096) :
    Calls Tryz.prog 46 #[v1, v2] w fun e w' => e = .returned (.bool true) ∧ Below w.heap.size w w' := by
  have hl : n = xs.length := by have := h1.1; simpa using this.symm
  obtain ⟨p1, c1, rfl⟩ := own_shape h1
  obtain ⟨p2, c2, rfl⟩ := own_shape h2
  have H1 := Lib.hid h1
  have H2 := Lib.hid h2
  have HL := Lib.hid hl
  clear h1 h2 hl
  go_enter Tryz.func46, Tryz.ntmps46
  go_wp2_with fail
  go_loopw [5] (fun v wr => ∃ k : Nat, k ≤ n ∧ v = .int .i64 k ∧ Below w.heap.size w wr) (fun v _ => n - (intOf v).toNat)
  case atStart => exact ⟨0, Nat.zero_le _, rfl, Below.refl _ _⟩
  case round =>
    obtain ⟨k, hk, rfl, hbel⟩ := hrel
    have HBE := Lib.hid hbel
    by_cases hlt : k < n
    · have hlt' : (k : Int) < n := by omega
      have hx : (xs.map Value.string)[k]? = some (.string (xs.getD k ByteArray.empty)) := by
        have : k < xs.length := by rw [← HL.out]; exact hlt
        simp [this, List.getD]
      obtain ⟨x, hxx⟩ : ∃ x, xs.getD k ByteArray.empty = x := ⟨_, rfl⟩
      rw [hxx] at hx
      have HX := Lib.hid hx
      obtain ⟨g1, k1, z1, e1, _, _, B1⟩ := own_split H1.out (by omega)
      obtain ⟨g2, k2, z2, e2, _, _, B2⟩ := own_split H2.out (by omega)
      injection e1 with e11 _ e12
      injection e2 with e21 _ e22
      subst e11 e12 e21 e22
      have q1 : wr.cell? ⟨g1, k, none⟩ = some (.string x) := (B1.below hbel B1.lt).cell (by rw [List.getElem?_append_left (by rw [List.length_map, ← HL.out]; exact hlt)]; exact hx)
      have q2 : wr.cell? ⟨g2, k, none⟩ = some (.string x) := (B2.below hbel B2.lt).cell (by rw [List.getElem?_append_left (by rw [List.length_map, ← HL.out]; exact hlt)]; exact hx)
      clear hbel hx hxx B1 B2
      go_wp2_with fail
      refine wp_region_still_drew (by kernel_rfl) (by kernel_rfl) ?_
      iterate 9 still_step
      refine wpStill_nil ?_
      have HBE' := Lib.hid HBE.out.drew
      go_wp2_with fail
      go_roundw
      case rel => exact ⟨k + 1, by omega, by go_num, HBE'.out⟩
      case measure => simp [intOf]; omega
    · obtain rfl : k = n := by omega
      go_wp2_with fail
      go_ret
      exact ⟨rfl, HBE.out⟩
theorem img_one (p1 p2 : Option Addr) (n1 c1 n2 c2 : Nat) : ∀ v ∈ ([.slice p1 n1 c1, .slice p2 n2 c2] : List Value), v.oneCell' = true := by
  intro v hv; simp at hv; rcases hv with rfl | rfl <;> rfl
set_option maxHeartbeats 1000000 in
/-- Two images of the same blocks, without writes, are the same. -/
theorem image_same (v1 v2 u1 u2 : Value) (b1 b2 b3 b4 n : Nat) (xs : List ByteArray) (w : World) (h1 : w.ownsRow b1 9 1 v1 n (xs.map .string)) (h2 : w.ownsRow b2 9 1 v2 n (xs.map .string)) (h3 : w.ownsRow b3 129 2 u1 0 []) (h4 : w.ownsRow b4 129 2 u2 0 []) (hn : n ≤ 4096) :
    Calls Tryz.prog 45 #[.agg #[v1, u1], .agg #[v2, u2]] w fun e w' => e = .returned (.bool true) ∧ Below w.heap.size w w' := by
  obtain ⟨p1, c1, rfl⟩ := own_shape h1
  obtain ⟨p2, c2, rfl⟩ := own_shape h2
  obtain ⟨p3, c3, rfl⟩ := own_nil h3
  obtain ⟨p4, c4, rfl⟩ := own_nil h4
  have H1 := Lib.hid h1
  have H2 := Lib.hid h2
  clear h1 h2 h3 h4
  go_enter Tryz.func45, Tryz.ntmps45
  go_wp2_with (first
    | ((with_reducible refine wpList_box_new 33 (.tmp 0) [.slice p1 n c1, .slice p3 0 c3] (some 2) ?hgd ?ho ?hd ?hx ?_); (case hgd => rfl); (case ho => rfl); (case hd => rfl); (case hx => rfl); (intro b2' w1 l1 B1 e1 z1))
    | ((with_reducible refine wpList_box_new 33 (.tmp 1) [.slice p2 n c2, .slice p4 0 c4] (some 3) ?hgd ?ho ?hd ?hx ?_); (case hgd => rfl); (case ho => rfl); (case hd => rfl); (case hx => rfl); (intro b3' w2 l2 B2 e2 z2; have B1' := B1.below e2 (Nat.lt_of_lt_of_le z1 l2); have x0 := B1'.cell (i := 0) rfl; have y0 := B2.cell (i := 0) rfl))
    | fail)
  have hb2 : Below w.heap.size w w2 := (e1.mono l1).trans (e2.mono (Nat.le_trans l1 (Nat.le_of_lt (Nat.lt_of_lt_of_le z1 l2))))
  have HA := Lib.hid B1'
  have HB := Lib.hid B2
  have HBE := Lib.hid hb2
  clear B1 B1' B2 e1 e2 z1 z2 l1 l2 x0 y0 hb2
  refine (texts_same _ _ _ _ n xs _ (own_below HBE.out H1.out) (own_below HBE.out H2.out) hn).mono ?_
  rintro e w3 ⟨rfl, hb3⟩
  have HA3 := Lib.hid (HA.out.below hb3 HA.out.lt)
  have HB3 := Lib.hid (HB.out.below hb3 HB.out.lt)
  have HBE3 := Lib.hid (HBE.out.trans (hb3.mono HBE.out.size))
  clear hb3
  have x1 := HA3.out.cell (i := 1) rfl
  have y1 := HB3.out.cell (i := 1) rfl
  go_wp2_with fail
  go_loopw [5] (fun v wr => v = .int .i64 0 ∧ w3 = wr) (fun _ _ => 0)
  case atStart => exact ⟨rfl, rfl⟩
  case round =>
    obtain ⟨rfl, rfl⟩ := hrel
    go_wp2_with fail
    go_ret
    exact ⟨rfl, HBE3.out⟩
end Go.Proofs.YtppdboadjefieaaGreat
