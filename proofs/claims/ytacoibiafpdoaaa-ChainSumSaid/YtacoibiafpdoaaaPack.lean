/- Walks of octet.Pack and the documents' Pack, where all numbers fit. -/
import Derived.Test.YtacoibiafpdoaaaRows1
import Derived.Test.YtacoibiafpdoaaaWDerive2
import Derived.Deep.RegionHeld3
namespace Go.Proofs.Ytacoibiafpdoaaa
open Go Go.RowKit
set_option linter.unusedVariables false

/-- The first k numbers' bytes. -/
def packTo (ws xs : List Int) (k : Nat) : List UInt8 := ((ws.zip xs).take k).flatMap fun p => beBytes p.1.toNat p.2.toNat
def packL (ws xs : List Int) : List UInt8 := (ws.zip xs).flatMap fun p => beBytes p.1.toNat p.2.toNat
theorem packTo_succ (ws xs : List Int) (k : Nat) (a x : Int) (ha : ws[k]? = some a) (hx : xs[k]? = some x) : packTo ws xs (k + 1) = packTo ws xs k ++ beBytes a.toNat x.toNat := by
  have hz : (ws.zip xs)[k]? = some (a, x) := by rw [List.getElem?_zip_eq_some]; exact ⟨ha, hx⟩
  obtain ⟨hk, he⟩ := List.getElem?_eq_some_iff.1 hz
  unfold packTo
  rw [List.take_succ_eq_append_getElem hk, List.flatMap_append, he]
  simp
theorem packTo_all (ws xs : List Int) (h : ws.length = xs.length) : packTo ws xs xs.length = packL ws xs := by
  unfold packTo packL
  rw [List.take_of_length_le (by rw [List.length_zip]; omega)]
/-- Numbers that fit their widths. -/
structure PackOk (ws xs : List Int) : Prop where
  len : ws.length = xs.length
  each : ∀ (i : Nat) (a x : Int), ws[i]? = some a → xs[i]? = some x → 1 ≤ a ∧ a ≤ 8 ∧ 0 ≤ x ∧ x < 9223372036854775808 ∧ x.toNat < 256 ^ a.toNat
theorem packTo_le {ws xs : List Int} (h : PackOk ws xs) (k : Nat) : (packTo ws xs k).length ≤ 8 * k := by
  induction k with
  | zero => simp [packTo]
  | succ k ih =>
    by_cases hk : k < xs.length
    · obtain ⟨x, hx⟩ : ∃ x, xs[k]? = some x := ⟨_, List.getElem?_eq_getElem hk⟩
      obtain ⟨a, ha⟩ : ∃ x, ws[k]? = some x := ⟨_, List.getElem?_eq_getElem (by rw [h.len]; exact hk)⟩
      rw [packTo_succ _ _ _ _ _ ha hx, List.length_append, beBytes_length]
      have := h.each k a x ha hx
      omega
    · have : packTo ws xs (k + 1) = packTo ws xs k := by
        unfold packTo
        rw [List.take_of_length_le (by rw [List.length_zip]; omega), List.take_of_length_le (by rw [List.length_zip]; omega)]
      rw [this]
      omega
theorem IntRow.at {w : World} {v : Value} {xs : List Int} (h : IntRow w v xs) (hne : 0 < xs.length) : ∃ g o c, v = .slice (some ⟨g, o, none⟩) xs.length c ∧ g < w.heap.size ∧ ∀ (j : Nat) (x : Int), xs[j]? = some x → w.cell? ⟨g, o + j, none⟩ = some (.int .i64 x) := by
  rcases h with ⟨rfl, _⟩ | h
  · simp at hne
  · exact h

set_option maxRecDepth 100000 in
set_option maxHeartbeats 1000000 in
theorem opack_walk (v u : Value) (ws xs : List Int) (w : World) (hv : IntRow w v ws) (hu : IntRow w u xs) (hne : 0 < xs.length) (hx : xs.length ≤ 16) (hok : PackOk ws xs) :
    Calls Try.prog 144 #[v, u] w fun e w' => ∃ r, e = .returned (.tuple #[.string r, .int .i64 0]) ∧ Txt r (packL ws xs) ∧ Below w.heap.size w w' := by
  obtain ⟨g, o, c, rfl, hg, hc⟩ := hv.at (by rw [hok.len]; exact hne)
  obtain ⟨g', o', c', rfl, hg', hc'⟩ := hu.at hne
  obtain ⟨n, Hn⟩ : ∃ n, Hid (n = xs.length) := ⟨_, rfl⟩
  rw [hok.len, ← Hn.out]
  rw [← Hn.out] at hx hne
  have HO := Lib.hid hok; clear hok
  have HC := Lib.hid hc; clear hc
  have HC' := Lib.hid hc'; clear hc'
  clear hv hu
  go_enter Try.func144, Try.ntmps144
  go_wp2_with ((with_reducible refine wpList_alloc_new 110 _ zeroBuilder (some 6) ?hgd ?ho ?hd ?_); (case hgd => rfl); (case ho => rfl); (case hd => rfl); (intro b w1 l1 B1 e1 z1))
  have hB1 := Bld.new B1
  have hbel := e1.mono l1
  clear B1 e1 z1
  go_loopw [18] (fun i wr => ∃ k : Nat, k ≤ n ∧ i = .int .i64 k ∧ Bld wr b (packTo ws xs k) ∧ Below w.heap.size w wr) (fun i _ => n - (intOf i).toNat)
  case atStart => exact ⟨0, by omega, rfl, hB1, hbel⟩
  case round =>
    clear hB1 hbel
    obtain ⟨k, hk, rfl, hB, hbel⟩ := hrel
    have HB := Lib.hid hB; clear hB
    by_cases hlt : k < n
    · have hlt' : (k : Int) < n := by omega
      obtain ⟨x, hxk⟩ : ∃ x, xs[k]? = some x := ⟨_, List.getElem?_eq_getElem (by rw [← Hn.out]; exact hlt)⟩
      obtain ⟨a, hak⟩ : ∃ x, ws[k]? = some x := ⟨_, List.getElem?_eq_getElem (by rw [HO.out.len, ← Hn.out]; exact hlt)⟩
      have hcx : wr.cell? ⟨g', o' + k, none⟩ = some (.int .i64 x) := by rw [hbel.cell (by show g' < w.heap.size; exact hg')]; exact HC'.out k x hxk
      have hca : wr.cell? ⟨g, o + k, none⟩ = some (.int .i64 a) := by rw [hbel.cell (by show g < w.heap.size; exact hg)]; exact HC.out k a hak
      obtain ⟨h1, h2, h3, h4, h5⟩ := HO.out.each k a x hak hxk
      obtain ⟨m, rfl⟩ : ∃ m : Nat, x = (m : Int) := ⟨x.toNat, by omega⟩
      obtain ⟨a', rfl⟩ : ∃ m : Nat, a = (m : Int) := ⟨a.toNat, by omega⟩
      have HX := Lib.hid hxk; clear hxk
      have HA := Lib.hid hak; clear hak
      have h0 : (0 : Int) ≤ (k : Int) := by omega
      go_wp2_with fail
      refine (oput m a' _ (by omega) (by omega) (by omega) (fun _ => by simpa using h5)).mono ?_
      rintro e w3 ⟨r, rfl, tr, hb3⟩
      have hB3 := HB.out.below hb3
      have HB3 := Lib.hid hB3; clear hB3
      have sr : r.size ≤ 8 := by rw [tr.size, beBytes_length]; omega
      go_wp2_with fail
      refine (bld_writeString b _ r _ HB3.out (by have := packTo_le HO.out k; omega)).mono ?_
      rintro e w4 ⟨rfl, hB4, hb4⟩
      have HB4 := Lib.hid hB4; clear hB4
      go_wp2_with fail
      go_roundw
      case rel =>
        refine ⟨k + 1, by omega, by go_num, ?_, (hbel.trans (hb3.mono hbel.size)).trans (hb4.mono l1)⟩
        have := HB4.out
        rw [show r.data.toList = _ from tr] at this
        rw [packTo_succ _ _ _ _ _ HA.out HX.out, Int.toNat_natCast, Int.toNat_natCast]
        exact this
      case measure => simp [intOf]; omega
    · obtain rfl : k = n := by omega
      go_wp2_with fail
      refine (bld_string b _ _ HB.out).mono ?_
      rintro e w5 ⟨q, rfl, tq, hb5⟩
      go_wp2_with fail
      go_ret2
      exact ⟨q, rfl, tq.cast (by rw [Hn.out]; exact packTo_all _ _ HO.out.len), hbel.trans (hb5.mono l1)⟩

set_option maxRecDepth 100000 in
set_option maxHeartbeats 1000000 in
theorem rpack_walk (v u : Value) (ws xs : List Int) (w : World) (hv : IntRow w v ws) (hu : IntRow w u xs) (hne : 0 < xs.length) (hx : xs.length ≤ 16) (hok : PackOk ws xs) :
    Calls Try.prog 126 #[v, u] w fun e w' => ∃ r, e = .returned (.tuple #[.string r, .int .i64 0]) ∧ Txt r (packL ws xs) ∧ Below w.heap.size w w' := by
  obtain ⟨g, o, c, rfl, hg, hc⟩ := hv.at (by rw [hok.len]; exact hne)
  obtain ⟨g', o', c', rfl, hg', hc'⟩ := hu.at hne
  obtain ⟨n, Hn⟩ : ∃ n, Hid (n = xs.length) := ⟨_, rfl⟩
  rw [hok.len, ← Hn.out]
  rw [← Hn.out] at hx hne
  have HO := Lib.hid hok; clear hok
  have HC := Lib.hid hc; clear hc
  have HC' := Lib.hid hc'; clear hc'
  clear hv hu
  go_enter Try.func126, Try.ntmps126
  go_wp2_with fail
  go_loopw [6, 7] (fun v6 i wr => ∃ (k : Nat) (q : ByteArray), k ≤ n ∧ i = .int .i64 k ∧ v6 = .string q ∧ Txt q (packTo ws xs k) ∧ Below w.heap.size w wr) (fun _ i _ => n - (intOf i).toNat)
  case atStart => exact ⟨0, ⟨#[]⟩, by omega, rfl, rfl, Txt.mk [], Below.refl _ _⟩
  case round =>
    obtain ⟨k, q, hk, rfl, rfl, tq, hbel⟩ := hrel
    have sq : q.size ≤ 1024 := by rw [tq.size]; have := packTo_le HO.out k; omega
    by_cases hlt : k < n
    · have hlt' : (k : Int) < n := by omega
      obtain ⟨x, hxk⟩ : ∃ x, xs[k]? = some x := ⟨_, List.getElem?_eq_getElem (by rw [← Hn.out]; exact hlt)⟩
      obtain ⟨a, hak⟩ : ∃ x, ws[k]? = some x := ⟨_, List.getElem?_eq_getElem (by rw [HO.out.len, ← Hn.out]; exact hlt)⟩
      have hcx : wr.cell? ⟨g', o' + k, none⟩ = some (.int .i64 x) := by rw [hbel.cell (by show g' < w.heap.size; exact hg')]; exact HC'.out k x hxk
      have hca : wr.cell? ⟨g, o + k, none⟩ = some (.int .i64 a) := by rw [hbel.cell (by show g < w.heap.size; exact hg)]; exact HC.out k a hak
      obtain ⟨h1, h2, h3, h4, h5⟩ := HO.out.each k a x hak hxk
      obtain ⟨m, rfl⟩ : ∃ m : Nat, x = (m : Int) := ⟨x.toNat, by omega⟩
      obtain ⟨a', rfl⟩ : ∃ m : Nat, a = (m : Int) := ⟨a.toNat, by omega⟩
      have HX := Lib.hid hxk; clear hxk
      have HA := Lib.hid hak; clear hak
      have h0 : (0 : Int) ≤ (k : Int) := by omega
      go_wp2_with fail
      have hgl : g < wr.heap.size := by have := hbel.size; omega
      have hgl' : g' < wr.heap.size := by have := hbel.size; omega
      go_region_held3 (fun w' => w'.cell? ⟨g', o' + k, none⟩ = some (.int .i64 m) ∧ w'.cell? ⟨g, o + k, none⟩ = some (.int .i64 a')) (go_keep) ((go_at_call 98; refine (rput_walk m a' _ (by omega)).mono ?_; rintro e w3 ⟨he, hb3⟩; obtain ⟨r, rfl, tr⟩ := he.yes ⟨by omega, by omega, by omega, by simpa using h5⟩; clear he; have p1 : w3.cell? ⟨g', o' + k, none⟩ = some (.int .i64 m) := (hb3.cell (p := ⟨g', o' + k, none⟩) hgl').trans hcx; have p2 : w3.cell? ⟨g, o + k, none⟩ = some (.int .i64 a') := (hb3.cell (p := ⟨g, o + k, none⟩) hgl).trans hca))
      have sr : r.size ≤ 8 := by rw [tr.size, beBytes_length]; omega
      go_wp2_with fail
      go_roundw
      case rel =>
        refine ⟨k + 1, q ++ r, by omega, by go_num, rfl, ?_, hbel.trans ((Below.refl _ _).drew.trans hb3 |>.mono hbel.size)⟩
        rw [packTo_succ _ _ _ _ _ HA.out HX.out, Int.toNat_natCast, Int.toNat_natCast]
        exact tq.append tr
      case measure => simp [intOf]; omega
    · obtain rfl : k = n := by omega
      go_wp2_with fail
      go_ret2
      exact ⟨q, rfl, tq.cast (by rw [Hn.out]; exact packTo_all _ _ HO.out.len), hbel⟩
end Go.Proofs.Ytacoibiafpdoaaa
