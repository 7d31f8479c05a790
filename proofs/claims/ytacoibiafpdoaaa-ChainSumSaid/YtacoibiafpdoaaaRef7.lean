/- Walks of the documents' derive (chapter 04). -/
import Derived.Test.YtacoibiafpdoaaaRef6
import Derived.Test.YtacoibiafpdoaaaWDerive3
namespace Go.Proofs.Ytacoibiafpdoaaa
open Go Go.RowKit
set_option linter.unusedVariables false

theorem rtext01_walk (s : ByteArray) (w : World) (hs : s.size ≤ 1073741824) :
    Calls Try.prog 110 #[.string s] w fun e w' => ∃ r, e = .returned (.string r) ∧ Txt r (textL s.data.toList) ∧ Below w.heap.size w w' := by
  go_enter Try.func110, Try.ntmps110
  go_wp2_with fail
  refine (rput_walk s.size 4 _ (by omega)).mono ?_
  rintro e w1 ⟨he, hb⟩
  obtain ⟨r, rfl, tr⟩ := he.yes ⟨by omega, by omega, by omega, by show s.size < 256 ^ 4; omega⟩
  clear he
  have hr : r.size ≤ 4 := by rw [tr.size, beBytes_length]; simp
  go_wp2_with fail
  go_ret
  exact ⟨_, rfl, tr.append (Txt.self s), hb⟩

/-- One byte of the machine's memory as a text. -/
theorem conv_one (c : UInt8) (n : Int) (hn : n = ((c.toNat : Nat) : Int)) (g : Nat) (w : World) (h : w.cell? ⟨g, 0, none⟩ = some (.int .u8 n)) :
    Sem.run Try.prog (convert 104 9 (.slice (some ⟨g, 0, none⟩) 1 1)) w = .ok (.string ⟨#[c]⟩) w := by
  subst hn
  rw [run_convert_bytes_string w 104 9 5 _ _ _ Try.underlying104 Try.underlying5 Try.underlying9, run_bytes_string w _ [c] 1 1 rfl ?_]
  · rfl
  · intro j v hv
    cases j with
    | zero => simp [bytesV] at hv; subst hv; exact h
    | succ j => simp [bytesV] at hv

set_option maxHeartbeats 1000000 in
set_option maxRecDepth 100000 in
theorem rsaid_nil (label : ByteArray) (p : Option Addr) (c : Nat) (w : World) :
    Calls Try.prog 51 #[.string label, .slice p 0 c] w fun e w' => SaidEnd label.data.toList ([] : List Int) e ∧ Below w.heap.size w w' := by
  by_cases c1 : label.size < 1
  · go_enter Try.func51, Try.ntmps51
    go_wp2_with fail
    go_ret2
    exact ⟨.inr ⟨saidNo_1 (show label.data.toList.length < 1 from c1), rfl⟩, Below.refl _ _⟩
  by_cases c2 : 16 < label.size
  · have d1 : (1 : Int) ≤ label.size := by omega
    have d2 : (16 : Int) < label.size := by omega
    go_enter Try.func51, Try.ntmps51
    go_wp2_with fail
    go_ret2
    exact ⟨.inr ⟨saidNo_2 (show 16 < label.data.toList.length from c2), rfl⟩, Below.refl _ _⟩
  have d1 : (1 : Int) ≤ label.size := by omega
  have d2 : (label.size : Int) ≤ 16 := by omega
  have hconv := conv_one 0 (IntKind.u8.wrap 0) rfl
  have hT : (textL label.data.toList).length ≤ 20 := by rw [textL_length]; show 4 + label.size ≤ 20; omega
  have HT := Lib.hid hT; clear hT
  go_enter Try.func51, Try.ntmps51
  go_wp2_with fail
  go_cut [6] from 23 to 30 (fun s6 wc => ∃ r, s6 = .string r ∧ Txt r (saidTo label.data.toList ([] : List Int) 0) ∧ Below w.heap.size w wc)
  case first =>
    go_region_with ((go_at_call 110; refine (rtext01_walk label _ (by omega)).mono ?_; rintro e w2 ⟨r, rfl, tr, hb2⟩; have hr : r.size ≤ 20 := (by rw [tr.size]; exact HT.out); have hq := fun (h : w.heap.size < _) => hb2.cell (p := ⟨w.heap.size, 0, none⟩) h))
    all_goals go_wp2_with fail
    all_goals go_meet
    case rel => exact ⟨_, rfl, (tr.append (Txt.mk [0])).cast (by rw [saidTo_zero]; rfl), ((Below.refl _ _).drew.trans (hb2.mono (by simp))).alloc (by have := hb2.size; simp at this; omega) _⟩
    all_goals exact ⟨_, rfl, (tr.append (Txt.mk [0])).cast (by rw [saidTo_zero]; rfl), ((Below.refl w.heap.size w).drew.alloc (by simp) _).trans (hb2.mono (by simp))⟩
  case rest =>
    clear hconv
    obtain ⟨r, rfl, tr, hbel⟩ := hcut
    go_wp2_with fail
    go_loopw [6, 7] (fun v i wr => ∃ q, v = .string q ∧ i = .int .i64 0 ∧ Txt q (saidTo label.data.toList ([] : List Int) 0) ∧ Below w.heap.size w wr) (fun _ _ _ => 0)
    case atStart => exact ⟨r, rfl, rfl, tr, hbel⟩
    case round =>
      clear tr hbel
      obtain ⟨q, rfl, rfl, tq, hbel⟩ := hrel
      go_wp2_with fail
      go_ret2
      exact ⟨.inl ⟨saidOk_of (show 1 ≤ label.size by omega) (show label.size ≤ 16 by omega) (by simp) (fun i x h => by simp at h), q, rfl, tq.cast rfl⟩, hbel⟩

set_option maxRecDepth 100000 in
set_option maxHeartbeats 2000000 in
theorem rsaid_row (label : ByteArray) (g o c : Nat) (xs : List Int) (w : World) (hg : g < w.heap.size) (hc : ∀ (j : Nat) (x : Int), xs[j]? = some x → w.cell? ⟨g, o + j, none⟩ = some (.int .i64 x)) (hx : ∀ (j : Nat) (x : Int), xs[j]? = some x → x < 9223372036854775808) (hxl : xs.length ≤ 1073741824) :
    Calls Try.prog 51 #[.string label, .slice (some ⟨g, o, none⟩) xs.length c] w fun e w' => SaidEnd label.data.toList xs e ∧ Below w.heap.size w w' := by
  have Hc := Lib.hid hc; clear hc
  have Hx : ∀ (j : Nat) (x : Int), xs[j]? = some x → I64 x := fun j x h => ⟨hx j x h⟩
  clear hx
  have HX := Lib.hid Hx; clear Hx
  by_cases c1 : label.size < 1
  · go_enter Try.func51, Try.ntmps51
    go_wp2_with fail
    go_ret2
    exact ⟨.inr ⟨saidNo_1 (show label.data.toList.length < 1 from c1), rfl⟩, Below.refl _ _⟩
  by_cases c2 : 16 < label.size
  · have d1 : (1 : Int) ≤ label.size := by omega
    have d2 : (16 : Int) < label.size := by omega
    go_enter Try.func51, Try.ntmps51
    go_wp2_with fail
    go_ret2
    exact ⟨.inr ⟨saidNo_2 (show 16 < label.data.toList.length from c2), rfl⟩, Below.refl _ _⟩
  have d1 : (1 : Int) ≤ label.size := by omega
  have d2 : (label.size : Int) ≤ 16 := by omega
  by_cases c3 : 8 < xs.length
  · have d3 : (8 : Int) < xs.length := by omega
    go_enter Try.func51, Try.ntmps51
    go_wp2_with fail
    go_ret2
    exact ⟨.inr ⟨saidNo_3 c3, rfl⟩, Below.refl _ _⟩
  have d3 : (xs.length : Int) ≤ 8 := by omega
  obtain ⟨b, Hb⟩ : ∃ b : UInt8, Hid (b = UInt8.ofNat xs.length) := ⟨_, rfl⟩
  have hconv := conv_one b (IntKind.u8.wrap xs.length) (by rw [Hb.out, IntKind.wrap_u8]; simp)
  have hT : (textL label.data.toList).length ≤ 20 := by rw [textL_length]; show 4 + label.size ≤ 20; omega
  have HT := Lib.hid hT; clear hT
  go_enter Try.func51, Try.ntmps51
  go_wp2_with fail
  go_cut [6] from 23 to 30 (fun s6 wc => ∃ r, s6 = .string r ∧ Txt r (saidTo label.data.toList xs 0) ∧ Below w.heap.size w wc)
  case first =>
    go_region_with ((go_at_call 110; refine (rtext01_walk label _ (by omega)).mono ?_; rintro e w2 ⟨r, rfl, tr, hb2⟩; have hr : r.size ≤ 20 := (by rw [tr.size]; exact HT.out); have hq := fun (h : w.heap.size < _) => hb2.cell (p := ⟨w.heap.size, 0, none⟩) h))
    all_goals go_wp2_with fail
    all_goals go_meet
    case rel => exact ⟨_, rfl, (tr.append (Txt.mk [b])).cast (by rw [saidTo_zero, Hb.out]), ((Below.refl _ _).drew.trans (hb2.mono (by simp))).alloc (by have := hb2.size; simp at this; omega) _⟩
    all_goals exact ⟨_, rfl, (tr.append (Txt.mk [b])).cast (by rw [saidTo_zero, Hb.out]), ((Below.refl w.heap.size w).drew.alloc (by simp) _).trans (hb2.mono (by simp))⟩
  case rest =>
    clear hconv
    obtain ⟨r, rfl, tr, hbel⟩ := hcut
    go_wp2_with fail
    go_loopw [6, 7] (fun v i wr => ∃ (k : Nat) (q : ByteArray), k ≤ xs.length ∧ v = .string q ∧ i = .int .i64 k ∧ Txt q (saidTo label.data.toList xs k) ∧ Below w.heap.size w wr ∧ ∀ (i : Nat) (x : Int), i < k → xs[i]? = some x → 0 ≤ x) (fun _ i _ => xs.length - (intOf i).toNat)
    case atStart => exact ⟨0, r, by omega, rfl, rfl, tr, hbel, fun i x h => by omega⟩
    case round =>
      clear tr hbel
      obtain ⟨k, q, hk, rfl, rfl, tq, hbel, hpos⟩ := hrel
      have HP := Lib.hid hpos; clear hpos
      have hq : q.size ≤ 85 := by
        rw [tq.size]
        have h1 := saidTo_length label.data.toList xs k
        have h2 : label.data.toList.length = label.size := rfl
        omega
      by_cases hlt : k < xs.length
      · have hlt' : (k : Int) < xs.length := by omega
        obtain ⟨x, hxk⟩ : ∃ x, xs[k]? = some x := ⟨_, List.getElem?_eq_getElem hlt⟩
        have ck : wr.cell? ⟨g, o + k, none⟩ = some (.int .i64 x) := by
          rw [hbel.cell (by show g < w.heap.size; exact hg)]; exact Hc.out k x hxk
        have h63 := HX.out k x hxk
        have HXk := Lib.hid hxk; clear hxk
        by_cases hneg : x < 0
        · go_wp2_with fail
          refine (rput_walk x 8 _ h63.lt).mono ?_
          rintro e w5 ⟨he, hb5⟩
          have he := he.no (by omega)
          subst he
          go_wp2_with fail
          go_ret2
          exact ⟨.inr ⟨saidNo_4 HXk.out hneg, rfl⟩, hbel.trans (hb5.mono hbel.size)⟩
        · obtain ⟨n, hn⟩ : ∃ n : Nat, x = (n : Int) := ⟨x.toNat, by omega⟩
          subst hn
          go_wp2_with fail
          refine (rput_walk n 8 _ h63.lt).mono ?_
          rintro e w5 ⟨he, hb5⟩
          obtain ⟨p, rfl, tp⟩ := he.yes ⟨by omega, by omega, by omega, by have := h63.lt; show n < 256 ^ 8; omega⟩
          clear he
          have hp : p.size ≤ 8 := by rw [tp.size, beBytes_length]; simp
          go_wp2_with fail
          go_roundw
          case rel =>
            refine ⟨k + 1, _, by omega, rfl, by go_num, ?_, hbel.trans (hb5.mono hbel.size), ?_⟩
            · rw [saidTo_succ _ _ _ _ HXk.out, Int.toNat_natCast]; exact tq.append tp
            · intro i y hi hy
              by_cases e : i = k
              · rw [e] at hy
                have h2 := Option.some.inj (HXk.out.symm.trans hy)
                omega
              · exact HP.out i y (by omega) hy
          case measure => simp [intOf]; omega
      · obtain rfl : k = xs.length := by omega
        go_wp2_with fail
        go_ret2
        exact ⟨.inl ⟨saidOk_of (show 1 ≤ label.size by omega) (show label.size ≤ 16 by omega) (by omega) (fun i x h => HP.out i x (List.getElem?_eq_some_iff.1 h).1 h), q, rfl, tq.cast (saidTo_all _ _)⟩, hbel⟩

theorem rsaid_walk (label : ByteArray) (v : Value) (xs : List Int) (w : World) (h : IntRow w v xs) (hx : ∀ (j : Nat) (x : Int), xs[j]? = some x → x < 9223372036854775808) (hxl : xs.length ≤ 1073741824) :
    Calls Try.prog 51 #[.string label, v] w fun e w' => SaidEnd label.data.toList xs e ∧ Below w.heap.size w w' := by
  rcases h with ⟨rfl, p, c, rfl⟩ | ⟨g, o, c, rfl, hg, hc⟩
  · exact rsaid_nil label p c w
  · exact rsaid_row label g o c xs w hg hc hx hxl
end Go.Proofs.Ytacoibiafpdoaaa
