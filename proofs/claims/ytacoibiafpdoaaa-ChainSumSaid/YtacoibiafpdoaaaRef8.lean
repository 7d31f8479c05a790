/- Walks of the documents' Key, Long (chapter 04). -/
import Derived.Test.YtacoibiafpdoaaaRef7
namespace Go.Proofs.Ytacoibiafpdoaaa
open Go Go.RowKit
set_option linter.unusedVariables false

theorem rkey04_walk (master label : ByteArray) (v : Value) (xs : List Int) (w : World) (hm : master.size ≤ 16777216) (h : IntRow w v xs) (hx : ∀ (j : Nat) (x : Int), xs[j]? = some x → x < 9223372036854775808) (hxl : xs.length ≤ 1073741824) :
    Calls Try.prog 53 #[.string master, .string label, v] w fun e w' => KeyEnd master.data.toList label.data.toList xs e ∧ Below w.heap.size w w' := by
  have Hx : ∀ (j : Nat) (x : Int), xs[j]? = some x → I64 x := fun j x h => ⟨hx j x h⟩
  clear hx
  have HX := Lib.hid Hx; clear Hx
  have H := Lib.hid h; clear h
  go_enter Try.func53, Try.ntmps53
  go_wp2_with fail
  refine (rsaid_walk label v xs _ H.out (fun j x h => (HX.out j x h).lt) hxl).mono ?_
  rintro e w1 ⟨⟨hok, r, rfl, tr⟩ | ⟨hno, rfl⟩, hb1⟩
  · have hlen := saidOk_len hok
    have hr : r.size ≤ 85 := by rw [tr.size, saidL_length, List.length_map]; omega
    have HK := Lib.hid hok; clear hok hlen
    go_wp2_with fail
    refine (rmac_walk master r _ hm (by omega)).mono ?_
    rintro e w2 ⟨q, rfl, tq, hb2⟩
    go_wp2_with fail
    go_ret2
    exact ⟨.inl ⟨HK.out, q, rfl, tq.cast (by rw [tr])⟩, hb1.trans (hb2.mono hb1.size)⟩
  · have HN := Lib.hid hno; clear hno
    go_wp2_with fail
    go_ret2
    exact ⟨.inr ⟨HN.out, rfl⟩, hb1⟩

set_option maxRecDepth 100000 in
set_option maxHeartbeats 1000000 in
theorem rlong_walk (master label : ByteArray) (n : Int) (w : World) (hm : master.size ≤ 16777216) :
    Calls Try.prog 66 #[.string master, .string label, .int .i64 n] w fun e w' => LongEnd master.data.toList label.data.toList n e ∧ Below w.heap.size w w' := by
  by_cases c1 : n < 0
  · go_enter Try.func66, Try.ntmps66
    go_wp2_with fail
    go_ret2
    exact ⟨.inr ⟨.inl c1, rfl⟩, Below.refl _ _⟩
  by_cases c2 : 8160 < n
  · have c1' : 0 ≤ n := by omega
    go_enter Try.func66, Try.ntmps66
    go_wp2_with fail
    go_ret2
    exact ⟨.inr ⟨.inr (.inl c2), rfl⟩, Below.refl _ _⟩
  obtain ⟨m, rfl⟩ : ∃ m : Nat, n = (m : Int) := ⟨n.toNat, by omega⟩
  have c1' : (0 : Int) ≤ (m : Int) := by omega
  have c2' : (m : Int) ≤ 8160 := by omega
  obtain ⟨q, Hq⟩ : ∃ q, Hid (q = (m + 31) / 32) := ⟨_, rfl⟩
  have hq : q ≤ 255 := by rw [Hq.out]; omega
  go_enter Try.func66, Try.ntmps66
  go_wp2_with fail
  refine (rsaid_walk label _ [] _ (IntRow.nil _) (fun j x h => by simp at h) (by simp)).mono ?_
  rintro e w2 ⟨⟨hok, r, rfl, tr⟩ | ⟨hno, rfl⟩, hb2⟩
  · have hr : r.size ≤ 21 := by rw [tr.size, saidL_length]; have := (saidOk_len hok).1; have e : label.data.toList.length = label.size := rfl; simp; omega
    have HK := Lib.hid hok; clear hok
    go_wp2_with fail
    obtain ⟨S, HS⟩ : ∃ S, Hid (S = saidL label.data.toList []) := ⟨_, rfl⟩
    have tr' : Txt r S := by rw [HS.out]; exact tr
    clear tr
    go_loopw [10, 11, 12] (fun vo vw i wr => ∃ (k : Nat) (was out : ByteArray), k ≤ q ∧ i = .int .i64 ((k : Int) + 1) ∧ vw = .string was ∧ vo = .string out ∧ Txt was (pieceAt master.data.toList S k) ∧ Txt out (pieces master.data.toList S k) ∧ Below w.heap.size w wr) (fun _ _ i _ => 300 - (intOf i).toNat)
    case atStart => exact ⟨0, ⟨#[]⟩, ⟨#[]⟩, by omega, rfl, rfl, rfl, Txt.mk [], Txt.mk [], hb2⟩
    case round =>
      clear hb2
      obtain ⟨k, was, out, hk, rfl, rfl, rfl, tw, tou, hbel⟩ := hrel
      have sw : was.size ≤ 32 := by
        rw [tw.size]
        cases k with
        | zero => simp [pieceAt]
        | succ k => rw [pieceAt_length]; omega
      have so : out.size = 32 * k := by rw [tou.size, pieces_length]
      have so' : out.size ≤ 8160 := by omega
      have SO := Lib.hid so; clear so
      by_cases hlt : k < q
      · have hlt' : (out.size : Int) < m := by have := SO.out; have := Hq.out; omega
        obtain ⟨c, Hc⟩ : ∃ c : UInt8, Hid (c = UInt8.ofNat (k + 1)) := ⟨_, rfl⟩
        have hk254 : (k : Int) ≤ 254 := by omega
        have ec : ((k : Int) + 1) = ((c.toNat : Nat) : Int) := by rw [Hc.out]; simp; omega
        have EC := Lib.hid ec; clear ec
        obtain ⟨p, hp, tp⟩ : ∃ p, str [c] = Value.string p ∧ Txt p [c] := ⟨_, rfl, Txt.mk _⟩
        have HP := Lib.hid hp; clear hp
        have sp : p.size ≤ 1 := by rw [tp.size]; simp
        go_wp2_with (first
          | ((with_reducible refine wpList_slice_new 104 5 1 ?parts [.int .u8 ((k : Int) + 1)] (.int .u8 0) 1 1 (some 39) Try.underlying104 infoByte (by omega) (by omega) ?hgd ?ho ?hd ?hf ?_); (case hgd => rfl); (case ho => rfl); (case hd => rfl); (case hf => kernel_rfl); (intro g w3 l3 B3 e3 z3); (have HB3 : Hid (Blk w3 g (bytesV [c]) 5) := B3.ext (by rw [EC.out]; rfl)); (clear B3))
          | ((with_reducible refine wpList_string_bytes 104 9 5 (.tmp 39) [c] g 0 1 1 (some 40) Try.underlying104 Try.underlying5 Try.underlying9 HB3.out.range (List.length_singleton (a := c)).symm ?hgd ?ho ?hd ?hx ?_); (case hgd => rfl); (case ho => rfl); (case hd => rfl); (case hx => rfl); (rw [HP.out])))
        refine (rmac_walk master _ _ hm (by simp [ByteArray.size_append]; omega)).mono ?_
        rintro e w4 ⟨h, rfl, th, hb4⟩
        have sh : h.size = 32 := by rw [th.size, mac_length]
        go_wp2_with fail
        go_roundw
        case rel =>
          have y := hbel.size
          have eh : Txt h (piece master.data.toList S (pieceAt master.data.toList S k) k) := by
            refine th.cast ?_
            rw [show ((was ++ r) ++ p).data.toList = _ from (tw.append tr').append tp, Hc.out]
            unfold piece
            simp
          refine ⟨k + 1, h, out ++ h, by omega, by simp, rfl, rfl, eh.cast rfl, (tou.append eh).cast rfl, (hbel.trans (e3.mono (by omega))).trans (hb4.mono (by have := e3.size; omega))⟩
        case measure => simp [intOf]; omega
      · obtain rfl : k = q := by omega
        have hmo : (m : Int) ≤ out.size := by have := SO.out; have := Hq.out; omega
        have hmo' : m ≤ out.size := by omega
        go_wp2_with fail
        go_ret2
        refine ⟨.inl ⟨c1', c2', HK.out, _, rfl, ?_⟩, hbel⟩
        refine (tou.extract 0 m).cast ?_
        rw [Int.toNat_natCast, List.drop_zero, longL, ← Hq.out, HS.out]
  · have HN := Lib.hid hno; clear hno
    go_wp2_with fail
    go_ret2
    exact ⟨.inr ⟨.inr (.inr HN.out), rfl⟩, hb2⟩
end Go.Proofs.Ytacoibiafpdoaaa
