/- Walks of hmac.Parts, derive.Key and derive.Long. -/
import Derived.Test.YtacoibiafpdoaaaWDerive2
namespace Go.Proofs.Ytacoibiafpdoaaa
open Go Go.RowKit
set_option linter.unusedVariables false

theorem join_flat (xs : List ByteArray) : Lib.join (xs.map (·.data.toList)) [] = catL xs := by
  unfold Lib.join catL
  induction xs with
  | nil => rfl
  | cons a r ih =>
    cases r with
    | nil => simp [List.intercalate]
    | cons b t =>
      simp only [List.intercalate, List.map_cons, List.intersperse_cons_cons, List.flatten_cons, List.nil_append, List.flatMap_cons] at ih ⊢
      rw [ih]

theorem parts_row (k : ByteArray) (g o c : Nat) (xs : List ByteArray) (w : World) (hk : k.size ≤ 16777216) (hg : g < w.heap.size) (hc : ∀ (j : Nat) (x : ByteArray), xs[j]? = some x → w.cell? ⟨g, o + j, none⟩ = some (.string x))
    (hcap : xs.length ≤ c) (hl : xs.length ≤ 1073741824) (hn : (catL xs).length ≤ 16777216) :
    Calls Try.prog 56 #[.string k, .slice (some ⟨g, o, none⟩) xs.length c] w fun e w' => ∃ r, e = .returned (.string r) ∧ Txt r (mac k.data.toList (catL xs)) ∧ Below w.heap.size w w' := by
  have Hc := Lib.hid hc; clear hc
  go_enter Try.func56, Try.ntmps56
  go_wp2_with fail
  refine (Try.strings_Join g o c xs ⟨#[]⟩ _ Hc.out hg (by omega) hcap (by show (Lib.join _ []).length ≤ _; rw [join_flat]; omega)).mono ?_
  rintro e w1 ⟨rfl, hb1⟩
  have ej : Lib.join (xs.map (·.data.toList)) (⟨#[]⟩ : ByteArray).data.toList = catL xs := join_flat xs
  rw [ej]
  obtain ⟨m, rfl, tm⟩ : ∃ m : ByteArray, m = ⟨(catL xs).toArray⟩ ∧ Txt m (catL xs) := ⟨_, rfl, Txt.mk _⟩
  go_wp2_with fail
  refine (mac_walk k ⟨(catL xs).toArray⟩ _ hk (by rw [tm.size]; exact hn)).mono ?_
  rintro e w2 ⟨r, rfl, tr, hb2⟩
  go_wp2_with fail
  go_ret
  exact ⟨r, rfl, tr, hb1.trans (hb2.mono hb1.size)⟩

theorem infoString : (Try.prog.info? 9).map (fun i => (i.zero, i.size, i.bytes)) = some (some (.string ⟨#[]⟩), 1, 16) := by kernel_rfl

theorem parts_blk (k : ByteArray) (g n c : Nat) (xs : List ByteArray) (t : TypeId) (w : World) (hk : k.size ≤ 16777216) (hb : Blk w g (xs.map Value.string) t) (hnl : n = xs.length)
    (hcap : xs.length ≤ c) (hl : xs.length ≤ 1073741824) (hn : (catL xs).length ≤ 16777216) :
    Calls Try.prog 56 #[.string k, .slice (some ⟨g, 0, none⟩) n c] w fun e w' => ∃ r, e = .returned (.string r) ∧ Txt r (mac k.data.toList (catL xs)) ∧ Below w.heap.size w w' := by
  subst hnl
  refine parts_row k g 0 c xs w hk hb.lt ?_ hcap hl hn
  intro j x hx
  rw [Nat.zero_add]
  exact hb.cell (by simp [hx])

/-- How Key ends. -/
def KeyEnd (master label : List UInt8) (xs : List Int) (e : Ending) : Prop :=
  (saidOk label xs = true ∧ ∃ r, e = .returned (.tuple #[.string r, .int .i64 0]) ∧ Txt r (mac master (saidL label (xs.map Int.toNat)))) ∨
  (saidOk label xs = false ∧ e = .returned (.tuple #[.string ⟨#[]⟩, .int .i64 2]))

theorem saidOk_len {label : List UInt8} {xs : List Int} (h : saidOk label xs = true) : label.length ≤ 16 ∧ xs.length ≤ 8 ∧ 1 ≤ label.length ∧ ∀ n ∈ xs, 0 ≤ n := by
  simp only [saidOk, Bool.and_eq_true, decide_eq_true_eq, List.all_eq_true] at h
  exact ⟨h.1.1.2, h.1.2, h.1.1.1, h.2⟩

theorem key_walk (master label : ByteArray) (v : Value) (xs : List Int) (w : World) (hm : master.size ≤ 16777216) (h : IntRow w v xs) (hx : ∀ (j : Nat) (x : Int), xs[j]? = some x → x < 9223372036854775808) (hxl : xs.length ≤ 1073741824) :
    Calls Try.prog 52 #[.string master, .string label, v] w fun e w' => KeyEnd master.data.toList label.data.toList xs e ∧ Below w.heap.size w w' := by
  have Hx := Lib.hid hx; clear hx
  have H := Lib.hid h; clear h
  go_enter Try.func52, Try.ntmps52
  go_wp2_with fail
  refine (said_walk label v xs _ H.out Hx.out hxl).mono ?_
  rintro e w1 ⟨⟨hok, r, rfl, tr⟩ | ⟨hno, rfl⟩, hb1⟩
  · have hlen := saidOk_len hok
    have hr : r.size ≤ 85 := by rw [tr.size, saidL_length, List.length_map]; omega
    have HK := Lib.hid hok; clear hok hlen
    go_wp2_with fail
    refine (mac_walk master r _ hm (by omega)).mono ?_
    rintro e w2 ⟨q, rfl, tq, hb2⟩
    go_wp2_with fail
    go_ret2
    exact ⟨.inl ⟨HK.out, q, rfl, tq.cast (by rw [tr])⟩, hb1.trans (hb2.mono hb1.size)⟩
  · have HN := Lib.hid hno; clear hno
    go_wp2_with fail
    go_ret2
    exact ⟨.inr ⟨HN.out, rfl⟩, hb1⟩

set_option maxHeartbeats 1000000 in
set_option maxRecDepth 100000 in
theorem next_walk (pm pw ps po : Nat) (master said was out : ByteArray) (i : Nat) (w : World) (hm : master.size ≤ 16777216) (hs : said.size ≤ 100) (hws : was.size ≤ 32) (ho : out.size ≤ 1073741824) (hi : i < 255)
    (Bm : Blk w pm [.string master] 9) (Bw : Blk w pw [.string was] 9) (Bs : Blk w ps [.string said] 9) (Bo : Blk w po [.string out] 9) (hne : pw ≠ po ∧ pw ≠ pm ∧ pw ≠ ps ∧ po ≠ pm ∧ po ≠ ps) :
    Calls Try.prog 116 #[.int .i64 i, .pointer (some ⟨pm, 0, none⟩), .pointer (some ⟨pw, 0, none⟩), .pointer (some ⟨ps, 0, none⟩), .pointer (some ⟨po, 0, none⟩)] w fun e w' =>
      e = .returned (.tuple #[]) ∧ ∃ q, Txt q (piece master.data.toList said.data.toList was.data.toList i) ∧ Blk w' pm [.string master] 9 ∧ Blk w' pw [.string q] 9 ∧ Blk w' ps [.string said] 9 ∧ Blk w' po [.string (out ++ q)] 9 ∧
        ∀ B a, Below B a w → B ≤ pw → B ≤ po → B ≤ w.heap.size → Below B a w' := by
  have hi' : (i : Int) < 255 := by omega
  have cm := Bm.cell (i := 0) rfl
  have cw := Bw.cell (i := 0) rfl
  have cs := Bs.cell (i := 0) rfl
  have HM := Lib.hid Bm; clear Bm
  have HW := Lib.hid Bw; clear Bw
  have HS := Lib.hid Bs; clear Bs
  have HO := Lib.hid Bo; clear Bo
  obtain ⟨c, Hc⟩ : ∃ c, Hid (c = UInt8.ofNat (i + 1)) := ⟨_, rfl⟩
  have ec : ((i : Int) + 1) = (((c.toNat : Nat)) : Int) := by rw [Hc.out]; simp; omega
  have EC := Lib.hid ec; clear ec
  go_enter Try.func116, Try.ntmps116
  go_wp2_with (first
    | ((with_reducible refine wpList_slice_new 104 5 1 ?parts [.int .u8 ((i : Int) + 1)] (.int .u8 0) 1 1 (some 12) Try.underlying104 infoByte (by omega) (by omega) ?hgd ?ho ?hd ?hf ?_); (case hgd => rfl); (case ho => rfl); (case hd => rfl); (case hf => kernel_rfl); (intro g w1 l1 B1 e1 z1); (have HB1 : Hid (Blk w1 g (bytesV [c]) 5) := B1.ext (by rw [EC.out]; rfl)); (clear B1))
    | ((with_reducible refine wpList_string_bytes 104 9 5 (.tmp 12) [c] g 0 1 1 (some 13) Try.underlying104 Try.underlying5 Try.underlying9 HB1.out.range (List.length_singleton (a := c)).symm ?hgd ?ho ?hd ?hx ?_); (case hgd => rfl); (case ho => rfl); (case hd => rfl); (case hx => rfl))
    | ((with_reducible refine wpList_slice_new 61 9 3 ?parts2 [.string was, .string said, str [c]] (.string ⟨#[]⟩) 1 16 (some 14) Try.underlying61 infoString (by omega) (by omega) ?hgd ?ho ?hd ?hf ?_); (case hgd => rfl); (case ho => rfl); (case hd => rfl); (case hf => kernel_rfl); (intro g2 w2 l2 B2 e2 z2)))
  refine (parts_blk master g2 3 3 [was, said, ⟨[c].toArray⟩] _ _ hm B2 rfl (by simp) (by simp) ?_).mono ?_
  · simp [catL]; show was.size + (said.size + 1) ≤ _; omega
  rintro e w3 ⟨q, rfl, tq, hb3⟩
  have q0 := HW.out.lt
  have q1 := HO.out.lt
  have q2 := HS.out.lt
  have q3 := HM.out.lt
  have HW3 : Hid (Blk w3 pw [.string was] 9) := ((HW.out.below e1 (by omega)).below e2 (by omega)).below hb3 (by omega)
  have HO3 : Hid (Blk w3 po [.string out] 9) := ((HO.out.below e1 (by omega)).below e2 (by omega)).below hb3 (by omega)
  have HS3 : Hid (Blk w3 ps [.string said] 9) := ((HS.out.below e1 (by omega)).below e2 (by omega)).below hb3 (by omega)
  have HM3 : Hid (Blk w3 pm [.string master] 9) := ((HM.out.below e1 (by omega)).below e2 (by omega)).below hb3 (by omega)
  have cw3 := HW3.out.cell (i := 0) rfl
  have fw3 := HW3.out.free 0
  have co3 := HO3.out.cell (i := 0) rfl
  have fo3 := HO3.out.free 0
  have hwo : ¬ pw = po := hne.1
  have hqs : q.size ≤ 32 := by rw [tq.size, mac_length]; omega
  have HNE := Lib.hid hne; clear hne
  clear cm cw cs B2
  go_wp2_with fail
  go_end0
  have hn := HNE.out
  have eq : piece master.data.toList said.data.toList was.data.toList i = mac master.data.toList (catL [was, said, ⟨[c].toArray⟩]) := by
    unfold piece
    rw [← Hc.out]
    simp [catL]
  refine ⟨rfl, q, tq.cast eq.symm, ?_, ?_, ?_, ?_, ?_⟩
  · exact (HM3.out.set_other (by show pm ≠ pw; omega) _).set_other (by show pm ≠ po; omega) _
  · exact (HW3.out.set 0 _).set_other (by show pw ≠ po; omega) _
  · exact (HS3.out.set_other (by show ps ≠ pw; omega) _).set_other (by show ps ≠ po; omega) _
  · exact (HO3.out.set_other (by show po ≠ pw; omega) _).set 0 _
  · intro B a hB b1 b2 b3
    have y1 := e1.size
    have y2 := e2.size
    exact ((((hB.trans (e1.mono (by omega))).trans (e2.mono (by omega))).trans (hb3.mono (by omega))).setCell (by show B ≤ pw; omega) _).setCell (by show B ≤ po; omega) _

theorem zeroString (w : World) : Sem.run Try.prog (zeroValue 9) w = .ok (.string ⟨#[]⟩) w := by kernel_rfl

/-- How Long ends. -/
def LongEnd (master label : List UInt8) (n : Int) (e : Ending) : Prop :=
  (0 ≤ n ∧ n ≤ 8160 ∧ saidOk label [] = true ∧ ∃ r, e = .returned (.tuple #[.string r, .int .i64 0]) ∧ Txt r (longL master label n.toNat)) ∨
  ((n < 0 ∨ 8160 < n ∨ saidOk label [] = false) ∧ e = .returned (.tuple #[.string ⟨#[]⟩, .int .i64 2]))

set_option maxHeartbeats 1000000 in
theorem long_walk (master label : ByteArray) (n : Int) (w : World) (hm : master.size ≤ 16777216) :
    Calls Try.prog 65 #[.string master, .string label, .int .i64 n] w fun e w' => LongEnd master.data.toList label.data.toList n e ∧ Below w.heap.size w w' := by
  by_cases c1 : n < 0
  · go_enter Try.func65, Try.ntmps65
    go_wp2_with ((with_reducible refine wpList_box_one 9 (.tmp 0) (.string master) rfl (some 3) ?hgd ?ho ?hd ?hx ?_); (case hgd => rfl); (case ho => rfl); (case hd => rfl); (case hx => rfl); (intro pm w1 l1 B1 e1 z1))
    go_ret2
    exact ⟨.inr ⟨.inl c1, rfl⟩, e1.mono l1⟩
  · by_cases c2 : 8160 < n
    · have c1' : 0 ≤ n := by omega
      go_enter Try.func65, Try.ntmps65
      go_wp2_with ((with_reducible refine wpList_box_one 9 (.tmp 0) (.string master) rfl (some 3) ?hgd ?ho ?hd ?hx ?_); (case hgd => rfl); (case ho => rfl); (case hd => rfl); (case hx => rfl); (intro pm w1 l1 B1 e1 z1))
      go_ret2
      exact ⟨.inr ⟨.inr (.inl c2), rfl⟩, e1.mono l1⟩
    · obtain ⟨m, rfl⟩ : ∃ m : Nat, n = (m : Int) := ⟨n.toNat, by omega⟩
      have c1' : (0 : Int) ≤ (m : Int) := by omega
      have c2' : (m : Int) ≤ 8160 := by omega
      obtain ⟨q, Hq⟩ : ∃ q, Hid (q = (m + 31) / 32) := ⟨_, rfl⟩
      have eq : ((m : Int) + 32 - 1) / 32 = (q : Int) := by rw [Hq.out]; omega
      have hq : q ≤ 255 := by rw [Hq.out]; omega
      go_enter Try.func65, Try.ntmps65
      go_wp2_with ((with_reducible refine wpList_box_one 9 (.tmp 0) (.string master) rfl (some 3) ?hgd ?ho ?hd ?hx ?_); (case hgd => rfl); (case ho => rfl); (case hd => rfl); (case hx => rfl); (intro pm w1 l1 B1 e1 z1))
      refine (said_walk label _ [] _ (IntRow.nil _) (fun j x h => by simp at h) (by simp)).mono ?_
      rintro e w2 ⟨⟨hok, r, rfl, tr⟩ | ⟨hno, rfl⟩, hb2⟩
      · have hr : r.size ≤ 21 := by rw [tr.size, saidL_length]; have := (saidOk_len hok).1; have e : label.data.toList.length = label.size := rfl; simp; omega
        have HK := Lib.hid hok; clear hok
        have BM : Hid (Blk w2 pm [.string master] 9) := B1.below hb2 z1
        clear B1
        go_wp2_with (first
          | ((with_reducible refine wpList_alloc_one 9 (.string ⟨#[]⟩) zeroString rfl (some 8) ?hgd ?ho ?hd ?_); (case hgd => rfl); (case ho => rfl); (case hd => rfl); (intro ps w3 l3 B3 e3 z3); (have cs := B3.cell (i := 0) rfl); (have fs := B3.free 0))
          | ((with_reducible refine wpList_alloc_one 9 (.string ⟨#[]⟩) zeroString rfl (some 10) ?hgd ?ho ?hd ?_); (case hgd => rfl); (case ho => rfl); (case hd => rfl); (intro po w4 l4 B4 e4 z4))
          | ((with_reducible refine wpList_alloc_one 9 (.string ⟨#[]⟩) zeroString rfl (some 11) ?hgd ?ho ?hd ?_); (case hgd => rfl); (case ho => rfl); (case hd => rfl); (intro pw w5 l5 B5 e5 z5); (have co := (B4.below e5 (by omega)).cell (i := 0) rfl); (have fo := (B4.below e5 (by omega)).free 0); (have cw := B5.cell (i := 0) rfl); (have fw := B5.free 0)))
        have y2 := hb2.size
        have y3 : w3.heap.size = (w3.setCell ⟨ps, 0, none⟩ (.string r)).heap.size := by simp
        have BM5 : Hid (Blk ((w5.setCell ⟨po, 0, none⟩ (.string ⟨#[]⟩)).setCell ⟨pw, 0, none⟩ (.string ⟨#[]⟩)) pm [.string master] 9) := by
          have h3 := (BM.out.below e3 (by omega)).set_other (a := ⟨ps, 0, none⟩) (by show pm ≠ ps; omega) (.string r)
          exact (((h3.below e4 (by omega)).below e5 (by omega)).set_other (by show pm ≠ po; omega) _).set_other (by show pm ≠ pw; omega) _
        have BS5 : Hid (Blk ((w5.setCell ⟨po, 0, none⟩ (.string ⟨#[]⟩)).setCell ⟨pw, 0, none⟩ (.string ⟨#[]⟩)) ps [.string r] 9) := by
          have h3 : Blk (w3.setCell ⟨ps, 0, none⟩ (.string r)) ps [.string r] 9 := B3.set 0 _
          have hs3 : ps < (w3.setCell ⟨ps, 0, none⟩ (.string r)).heap.size := h3.lt
          exact (((h3.below e4 (by omega)).below e5 (by omega)).set_other (by show ps ≠ po; omega) _).set_other (by show ps ≠ pw; omega) _
        have BO5 : Hid (Blk ((w5.setCell ⟨po, 0, none⟩ (.string ⟨#[]⟩)).setCell ⟨pw, 0, none⟩ (.string ⟨#[]⟩)) po [.string ⟨#[]⟩] 9) :=
          ((B4.below e5 (by omega)).set 0 _).set_other (by show po ≠ pw; omega) _
        have BW5 : Hid (Blk ((w5.setCell ⟨po, 0, none⟩ (.string ⟨#[]⟩)).setCell ⟨pw, 0, none⟩ (.string ⟨#[]⟩)) pw [.string ⟨#[]⟩] 9) :=
          (B5.set_other (by show pw ≠ po; omega) _).set 0 _
        have hbel : Below w.heap.size w ((w5.setCell ⟨po, 0, none⟩ (.string ⟨#[]⟩)).setCell ⟨pw, 0, none⟩ (.string ⟨#[]⟩)) :=
          (((((((e1.mono l1).trans (hb2.mono (by omega))).trans (e3.mono (by omega))).setCell (by show w.heap.size ≤ ps; omega) _).trans (e4.mono (by omega))).trans (e5.mono (by omega))).setCell (by show w.heap.size ≤ po; omega) _).setCell (by show w.heap.size ≤ pw; omega) _
        have hlo : w.heap.size ≤ pm ∧ pm < ps ∧ ps < po ∧ po < pw := by omega
        have HBEL := Lib.hid hbel
        clear hbel B3 B4 B5 e1 e3 e4 e5 hb2 cs fs co fo cw fw y3 y2 l1 l3 l4 l5 z1 z3 z4 z5 BM
        obtain ⟨S, HS⟩ : ∃ S, Hid (S = saidL label.data.toList []) := ⟨_, rfl⟩
        have tr' : Txt r S := by rw [HS.out]; exact tr
        clear tr
        rw [eq]
        clear eq
        go_loopw [33] (fun i wr => ∃ (k : Nat) (was out : ByteArray), k ≤ q ∧ i = .int .i64 k ∧ Txt was (pieceAt master.data.toList S k) ∧ Txt out (pieces master.data.toList S k) ∧ Blk wr pm [.string master] 9 ∧ Blk wr pw [.string was] 9 ∧ Blk wr ps [.string r] 9 ∧ Blk wr po [.string out] 9 ∧ Below w.heap.size w wr) (fun i _ => q - (intOf i).toNat)
        case atStart => exact ⟨0, ⟨#[]⟩, ⟨#[]⟩, by omega, rfl, Txt.mk [], Txt.mk [], BM5.out, BW5.out, BS5.out, BO5.out, HBEL.out⟩
        case round =>
          clear BM5 BW5 BS5 BO5 HBEL
          obtain ⟨k, was, out, hk, rfl, tw, tou, bm, bw, bs, bo, hbel⟩ := hrel
          have sw : was.size ≤ 32 := by
            rw [tw.size]
            cases k with
            | zero => simp [pieceAt]
            | succ k => rw [pieceAt_length]; omega
          have so : out.size = 32 * k := by rw [tou.size, pieces_length]
          have so' : out.size ≤ 8160 := by omega
          have SO := Lib.hid so; clear so
          have hpo : po < wr.heap.size := bo.lt
          have hco := bo.cell (i := 0) rfl
          have M := Lib.hid bm; clear bm
          have W := Lib.hid bw; clear bw
          have S1 := Lib.hid bs; clear bs
          have O := Lib.hid bo; clear bo
          by_cases hlt : k < q
          · have hlt' : (k : Int) < q := by omega
            go_wp2_with fail
            refine (next_walk pm pw ps po master r was out k _ hm (by omega) sw (by omega) (by omega) M.out W.out S1.out O.out (by omega)).mono ?_
            rintro e w6 ⟨rfl, p, tp, m6, b6, s6, o6, hb6⟩
            have H6 : Hid (Below w.heap.size w w6) := hb6 _ _ hbel (by omega) (by omega) (by have := hbel.size; omega)
            have M6 := Lib.hid m6
            have W6 := Lib.hid b6
            have S6 := Lib.hid s6
            have O6 := Lib.hid o6
            clear m6 b6 s6 o6 hb6 hco
            go_wp2_with fail
            go_roundw
            case rel =>
              refine ⟨k + 1, p, out ++ p, by omega, by go_num, ?_, ?_, M6.out, W6.out, S6.out, O6.out, H6.out⟩
              · refine tp.cast ?_
                rw [tr', tw]; rfl
              · refine (tou.append tp).cast ?_
                rw [tr', tw]; rfl
            case measure => simp [intOf]; omega
          · obtain rfl : k = q := by omega
            have hmo : (m : Int) ≤ out.size := by have := SO.out; have := Hq.out; omega
            have hmo' : m ≤ out.size := by omega
            go_wp2_with fail
            go_ret2
            refine ⟨.inl ⟨c1', c2', HK.out, _, rfl, ?_⟩, hbel⟩
            refine (tou.extract 0 m).cast ?_
            rw [Int.toNat_natCast, List.drop_zero, longL, ← Hq.out, HS.out]
      · have HN := Lib.hid hno; clear hno
        go_wp2_with ((with_reducible refine wpList_alloc_one 9 (.string ⟨#[]⟩) zeroString rfl (some 8) ?hgd ?ho ?hd ?_); (case hgd => rfl); (case ho => rfl); (case hd => rfl); (intro ps w3 l3 B3 e3 z3); (have cs := B3.cell (i := 0) rfl); (have fs := B3.free 0))
        go_ret2
        have y2 := hb2.size
        exact ⟨.inr ⟨.inr (.inr HN.out), rfl⟩, (((e1.mono l1).trans (hb2.mono (by omega))).trans (e3.mono (by omega))).setCell (by show w.heap.size ≤ ps; omega) _⟩
end Go.Proofs.Ytacoibiafpdoaaa
