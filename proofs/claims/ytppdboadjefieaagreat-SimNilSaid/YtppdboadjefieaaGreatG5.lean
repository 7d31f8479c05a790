/- Walks of package evolve. Walk of evolve.At, and the example of chapter 18. Walks of the documents' derive (chapter 04). Walks of the documents' Key, Long (chapter 04). Walks of the documents' chapter 18: Made, At, Data. Walks of octet.Get and the documents' Get, of any text. -/
import Derived.Test.YtppdboadjefieaaGreatG3
import Derived.Test.YtppdboadjefieaaGreatG1
import Derived.WalkMore
import Derived.Test.YtppdboadjefieaaGreatG4
namespace Go.Proofs.YtppdboadjefieaaGreat
set_option linter.unusedSimpArgs false
set_option linter.unusedVariables false
open Go Go.RowKit
set_option linter.unusedVariables false

def sealB : ByteArray := ⟨#[115, 101, 97, 108]⟩
def nextB : ByteArray := ⟨#[110, 101, 120, 116]⟩
def macB : ByteArray := ⟨#[109, 97, 99]⟩
def askB : ByteArray := ⟨#[97, 115, 107]⟩
def dataB : ByteArray := ⟨#[100, 97, 116, 97]⟩
/-- What a key makes for a label. -/
def madeL (key label : List UInt8) (xs : List Nat) : List UInt8 := mac key (saidL label xs)
/-- The epoch's key, j epochs on. -/
def atL (root : List UInt8) (first : Nat) : Nat → List UInt8
  | 0 => madeL root [115, 101, 97, 108] [first]
  | j + 1 => madeL (atL root first j) [110, 101, 120, 116] []
theorem madeL_length (k l : List UInt8) (xs : List Nat) : (madeL k l xs).length = 32 := mac_length _ _
theorem atL_length (r : List UInt8) (f j : Nat) : (atL r f j).length = 32 := by cases j <;> exact madeL_length _ _ _

theorem may_walk (n : Int) (w : World) :
    Calls Tryz.prog 164 #[.int .i64 n] w fun e w' => e = .returned (.bool (decide (0 ≤ n ∧ n ≤ 4294967295))) ∧ w = w' := by
  by_cases c1 : 0 ≤ n
  · by_cases c2 : n ≤ 4294967295
    · rw [decide_eq_true (show 0 ≤ n ∧ n ≤ 4294967295 by omega)]
      go_enter Tryz.func164, Tryz.ntmps164
      go_wp2_with fail
      go_ret
      exact ⟨rfl, rfl⟩
    · have d2 : 4294967295 < n := by omega
      rw [decide_eq_false (show ¬ (0 ≤ n ∧ n ≤ 4294967295) by omega)]
      go_enter Tryz.func164, Tryz.ntmps164
      go_wp2_with fail
      go_ret
      exact ⟨rfl, rfl⟩
  · have d1 : n < 0 := by omega
    rw [decide_eq_false (show ¬ (0 ≤ n ∧ n ≤ 4294967295) by omega)]
    go_enter Tryz.func164, Tryz.ntmps164
    go_wp2_with fail
    go_ret
    exact ⟨rfl, rfl⟩

theorem of_walk (key label : ByteArray) (v : Value) (xs : List Int) (w : World) (h : IntRow w v xs) (hok : saidOk label.data.toList xs = true) (hx : ∀ (j : Nat) (x : Int), xs[j]? = some x → x < 9223372036854775808) (hxl : xs.length ≤ 1073741824) :
    Calls Tryz.prog 165 #[.string key, .string label, v] w fun e w' => Ends (key.size = 32) (madeL key.data.toList label.data.toList (xs.map Int.toNat)) 2 e ∧ Below w.heap.size w w' := by
  have Hx := Lib.hid hx; clear hx
  have H := Lib.hid h; clear h
  have HO := Lib.hid hok; clear hok
  by_cases c1 : key.size = 32
  · have d1 : (key.size : Int) = 32 := by omega
    go_enter Tryz.func165, Tryz.ntmps165
    go_wp2_with fail
    refine (key_walk key label v xs _ (by omega) H.out Hx.out hxl).mono ?_
    rintro e w1 ⟨⟨_, r, rfl, tr⟩ | ⟨hno, rfl⟩, hb1⟩
    · go_wp2_with fail
      go_ret2
      exact ⟨.inl ⟨c1, r, rfl, tr⟩, hb1⟩
    · exact absurd (HO.out.symm.trans hno) (by decide)
  · have d1 : ¬ (key.size : Int) = 32 := by omega
    go_enter Tryz.func165, Tryz.ntmps165
    go_wp2_with fail
    go_ret2
    exact ⟨.inr ⟨c1, rfl⟩, Below.refl _ _⟩

theorem nextKey_walk (key : ByteArray) (w : World) :
    Calls Tryz.prog 141 #[.string key] w fun e w' => Ends (key.size = 32) (madeL key.data.toList [110, 101, 120, 116] []) 2 e ∧ Below w.heap.size w w' := by
  go_enter Tryz.func141, Tryz.ntmps141
  go_wp2_with fail
  refine (of_walk key nextB _ [] _ (IntRow.nil _) (by decide) (fun j x h => by simp at h) (by simp)).mono ?_
  rintro e w1 ⟨⟨h, r, rfl, tr⟩ | ⟨h, rfl⟩, hb1⟩
  · go_wp2_with fail
    go_ret2
    exact ⟨.inl ⟨h, r, rfl, tr⟩, hb1⟩
  · go_wp2_with fail
    go_ret2
    exact ⟨.inr ⟨h, rfl⟩, hb1⟩

theorem macKey_walk (key : ByteArray) (w : World) :
    Calls Tryz.prog 312 #[.string key] w fun e w' => Ends (key.size = 32) (madeL key.data.toList [109, 97, 99] []) 2 e ∧ Below w.heap.size w w' := by
  go_enter Tryz.func312, Tryz.ntmps312
  go_wp2_with fail
  refine (of_walk key macB _ [] _ (IntRow.nil _) (by decide) (fun j x h => by simp at h) (by simp)).mono ?_
  rintro e w1 ⟨⟨h, r, rfl, tr⟩ | ⟨h, rfl⟩, hb1⟩
  · go_wp2_with fail
    go_ret2
    exact ⟨.inl ⟨h, r, rfl, tr⟩, hb1⟩
  · go_wp2_with fail
    go_ret2
    exact ⟨.inr ⟨h, rfl⟩, hb1⟩

theorem askKey_walk (key : ByteArray) (w : World) :
    Calls Tryz.prog 285 #[.string key] w fun e w' => Ends (key.size = 32) (madeL key.data.toList [97, 115, 107] []) 2 e ∧ Below w.heap.size w w' := by
  go_enter Tryz.func285, Tryz.ntmps285
  go_wp2_with fail
  refine (of_walk key askB _ [] _ (IntRow.nil _) (by decide) (fun j x h => by simp at h) (by simp)).mono ?_
  rintro e w1 ⟨⟨h, r, rfl, tr⟩ | ⟨h, rfl⟩, hb1⟩
  · go_wp2_with fail
    go_ret2
    exact ⟨.inl ⟨h, r, rfl, tr⟩, hb1⟩
  · go_wp2_with fail
    go_ret2
    exact ⟨.inr ⟨h, rfl⟩, hb1⟩

theorem dataKey_walk (root : ByteArray) (w : World) :
    Calls Tryz.prog 77 #[.string root] w fun e w' => Ends (root.size = 32) (longL root.data.toList [100, 97, 116, 97] 16) 2 e ∧ Below w.heap.size w w' := by
  by_cases c1 : root.size = 32
  · have d1 : (root.size : Int) = 32 := by omega
    go_enter Tryz.func77, Tryz.ntmps77
    go_wp2_with fail
    refine (long_walk root dataB 16 _ (by omega)).mono ?_
    rintro e w1 ⟨⟨_, _, _, r, rfl, tr⟩ | ⟨hno, rfl⟩, hb1⟩
    · go_wp2_with fail
      go_ret2
      exact ⟨.inl ⟨c1, r, rfl, tr⟩, hb1⟩
    · rcases hno with h | h | h
      · omega
      · omega
      · exact absurd h (by decide)
  · have d1 : ¬ (root.size : Int) = 32 := by omega
    go_enter Tryz.func77, Tryz.ntmps77
    go_wp2_with fail
    go_ret2
    exact ⟨.inr ⟨c1, rfl⟩, Below.refl _ _⟩

theorem firstKey_walk (root : ByteArray) (n : Int) (w : World) :
    Calls Tryz.prog 79 #[.string root, .int .i64 n] w fun e w' => Ends (0 ≤ n ∧ n ≤ 4294967295 ∧ root.size = 32) (madeL root.data.toList [115, 101, 97, 108] [n.toNat]) 2 e ∧ Below w.heap.size w w' := by
  by_cases c1 : 0 ≤ n ∧ n ≤ 4294967295
  · go_enter Tryz.func79, Tryz.ntmps79
    go_wp2_with fail
    refine (may_walk n _).mono ?_
    rintro e w1 ⟨rfl, rfl⟩
    rw [decide_eq_true c1]
    go_wp2_with ((with_reducible refine wpList_slice_new 58 3 1 ?parts [.int .i64 n] (.int .i64 0) 1 8 (some 11) Tryz.underlying58 infoInt (by omega) (by omega) ?hgd ?ho ?hd ?hf ?_); (case hgd => rfl); (case ho => rfl); (case hd => rfl); (case hf => kernel_rfl); (intro g w2 l2 B2 e2 z2))
    refine (of_walk root sealB _ [n] _ (IntRow.blk (xs := [n]) B2 rfl 1) ?_ ?_ (by simp)).mono ?_
    · simp [saidOk, sealB]; omega
    · intro j x hx
      cases j with
      | zero => simp at hx; omega
      | succ j => simp at hx
    rintro e w3 ⟨⟨h, r, rfl, tr⟩ | ⟨h, rfl⟩, hb3⟩
    · go_wp2_with fail
      go_ret2
      exact ⟨.inl ⟨⟨c1.1, c1.2, h⟩, r, rfl, tr⟩, (e2.mono l2).trans (hb3.mono (by omega))⟩
    · go_wp2_with fail
      go_ret2
      exact ⟨.inr ⟨fun hh => h hh.2.2, rfl⟩, (e2.mono l2).trans (hb3.mono (by omega))⟩
  · go_enter Tryz.func79, Tryz.ntmps79
    go_wp2_with fail
    refine (may_walk n _).mono ?_
    rintro e w1 ⟨rfl, rfl⟩
    rw [decide_eq_false c1]
    go_wp2_with fail
    go_ret2
    exact ⟨.inr ⟨fun hh => c1 ⟨hh.1, hh.2.1⟩, rfl⟩, Below.refl _ _⟩
end Go.Proofs.YtppdboadjefieaaGreat
namespace Go.Proofs.YtppdboadjefieaaGreat
set_option linter.unusedSimpArgs false
set_option linter.unusedVariables false
open Go Go.RowKit
set_option linter.unusedVariables false

/-- How At ends. -/
def AtEnd (root : List UInt8) (first epoch : Int) (e : Ending) : Prop :=
  ((0 ≤ epoch ∧ epoch ≤ 4294967295 ∧ first ≤ epoch ∧ 0 ≤ first ∧ root.length = 32 ∧ epoch - first ≤ 4096) ∧ ∃ r, e = .returned (.tuple #[.string r, .int .i64 0]) ∧ Txt r (atL root first.toNat (epoch - first).toNat)) ∨
  ((epoch < 0 ∨ 4294967295 < epoch ∨ epoch < first ∨ first < 0 ∨ root.length ≠ 32) ∧ e = .returned (.tuple #[.string ⟨#[]⟩, .int .i64 2])) ∨
  ((0 ≤ epoch ∧ epoch ≤ 4294967295 ∧ first ≤ epoch ∧ 0 ≤ first ∧ root.length = 32 ∧ 4096 < epoch - first) ∧ e = .returned (.tuple #[.string ⟨#[]⟩, .int .i64 6]))

end Go.Proofs.YtppdboadjefieaaGreat
namespace Go.Proofs.YtppdboadjefieaaGreat
set_option linter.unusedSimpArgs false
set_option linter.unusedVariables false
open Go Go.RowKit
set_option linter.unusedVariables false

theorem rtext01_walk (s : ByteArray) (w : World) (hs : s.size ≤ 1073741824) :
    Calls Tryz.prog 425 #[.string s] w fun e w' => ∃ r, e = .returned (.string r) ∧ Txt r (textL s.data.toList) ∧ Below w.heap.size w w' := by
  go_enter Tryz.func425, Tryz.ntmps425
  go_wp2_with fail
  refine (rput_walk s.size 4 _ (by omega)).mono ?_
  rintro e w1 ⟨he, hb⟩
  obtain ⟨r, rfl, tr⟩ := he.yes ⟨by omega, by omega, by omega, by show s.size < 256 ^ 4; omega⟩
  clear he
  have hr : r.size ≤ 4 := by rw [tr.size, beBytes_length]; simp
  go_wp2_with fail
  go_ret
  exact ⟨_, rfl, tr.append (Txt.self s), hb⟩

/-- One byte of the machine's memory as a text. -/
theorem conv_one (c : UInt8) (n : Int) (hn : n = ((c.toNat : Nat) : Int)) (g : Nat) (w : World) (h : w.cell? ⟨g, 0, none⟩ = some (.int .u8 n)) :
    Sem.run Tryz.prog (convert 121 9 (.slice (some ⟨g, 0, none⟩) 1 1)) w = .ok (.string ⟨#[c]⟩) w := by
  subst hn
  rw [run_convert_bytes_string w 121 9 5 _ _ _ Tryz.underlying121 Tryz.underlying5 Tryz.underlying9, run_bytes_string w _ [c] 1 1 rfl ?_]
  · rfl
  · intro j v hv
    cases j with
    | zero => simp [bytesV] at hv; subst hv; exact h
    | succ j => simp [bytesV] at hv

set_option maxHeartbeats 1000000 in
set_option maxRecDepth 100000 in
theorem rsaid_nil (label : ByteArray) (p : Option Addr) (c : Nat) (w : World) :
    Calls Tryz.prog 394 #[.string label, .slice p 0 c] w fun e w' => SaidEnd label.data.toList ([] : List Int) e ∧ Below w.heap.size w w' := by
  by_cases c1 : label.size < 1
  · go_enter Tryz.func394, Tryz.ntmps394
    go_wp2_with fail
    go_ret2
    exact ⟨.inr ⟨saidNo_1 (show label.data.toList.length < 1 from c1), rfl⟩, Below.refl _ _⟩
  by_cases c2 : 16 < label.size
  · have d1 : (1 : Int) ≤ label.size := by omega
    have d2 : (16 : Int) < label.size := by omega
    go_enter Tryz.func394, Tryz.ntmps394
    go_wp2_with fail
    go_ret2
    exact ⟨.inr ⟨saidNo_2 (show 16 < label.data.toList.length from c2), rfl⟩, Below.refl _ _⟩
  have d1 : (1 : Int) ≤ label.size := by omega
  have d2 : (label.size : Int) ≤ 16 := by omega
  have hconv := conv_one 0 (IntKind.u8.wrap 0) rfl
  have hT : (textL label.data.toList).length ≤ 20 := by rw [textL_length]; show 4 + label.size ≤ 20; omega
  have HT := Lib.hid hT; clear hT
  go_enter Tryz.func394, Tryz.ntmps394
  go_wp2_with fail
  go_cut [6] from 23 to 30 (fun s6 wc => ∃ r, s6 = .string r ∧ Txt r (saidTo label.data.toList ([] : List Int) 0) ∧ Below w.heap.size w wc)
  case first =>
    go_region_with ((go_at_call 425; refine (rtext01_walk label _ (by omega)).mono ?_; rintro e w2 ⟨r, rfl, tr, hb2⟩; have hr : r.size ≤ 20 := (by rw [tr.size]; exact HT.out); have hq := fun (h : w.heap.size < _) => hb2.cell (p := ⟨w.heap.size, 0, none⟩) h))
    all_goals go_wp2_with fail
    all_goals go_meet
    case rel => exact ⟨_, rfl, (tr.append (Txt.mk [0])).cast (by rw [saidTo_zero]; rfl), ((Below.refl _ _).drew.trans (hb2.mono (by simp))).alloc (by have := hb2.size; simp at this; omega) _⟩
    all_goals exact ⟨_, rfl, (tr.append (Txt.mk [0])).cast (by rw [saidTo_zero]; rfl), ((Below.refl w.heap.size w).drew.alloc (by simp) _).trans (hb2.mono (by simp))⟩
  case rest =>
    clear hconv
    obtain ⟨r, rfl, tr, hbel⟩ := hcut
    go_wp2_with fail
    go_loopw [6, 7] (fun v i wr => ∃ q, v = .string q ∧ i = .int .i64 0 ∧ Txt q (saidTo label.data.toList ([] : List Int) 0) ∧ Below w.heap.size w wr) (fun _ _ _ => 0)
    case atStart => exact ⟨r, rfl, rfl, tr, hbel⟩
    case round =>
      clear tr hbel
      obtain ⟨q, rfl, rfl, tq, hbel⟩ := hrel
      go_wp2_with fail
      go_ret2
      exact ⟨.inl ⟨saidOk_of (show 1 ≤ label.size by omega) (show label.size ≤ 16 by omega) (by simp) (fun i x h => by simp at h), q, rfl, tq.cast rfl⟩, hbel⟩

set_option maxRecDepth 100000 in
set_option maxHeartbeats 2000000 in
theorem rsaid_row (label : ByteArray) (g o c : Nat) (xs : List Int) (w : World) (hg : g < w.heap.size) (hc : ∀ (j : Nat) (x : Int), xs[j]? = some x → w.cell? ⟨g, o + j, none⟩ = some (.int .i64 x)) (hx : ∀ (j : Nat) (x : Int), xs[j]? = some x → x < 9223372036854775808) (hxl : xs.length ≤ 1073741824) :
    Calls Tryz.prog 394 #[.string label, .slice (some ⟨g, o, none⟩) xs.length c] w fun e w' => SaidEnd label.data.toList xs e ∧ Below w.heap.size w w' := by
  have Hc := Lib.hid hc; clear hc
  have Hx : ∀ (j : Nat) (x : Int), xs[j]? = some x → I64 x := fun j x h => ⟨hx j x h⟩
  clear hx
  have HX := Lib.hid Hx; clear Hx
  by_cases c1 : label.size < 1
  · go_enter Tryz.func394, Tryz.ntmps394
    go_wp2_with fail
    go_ret2
    exact ⟨.inr ⟨saidNo_1 (show label.data.toList.length < 1 from c1), rfl⟩, Below.refl _ _⟩
  by_cases c2 : 16 < label.size
  · have d1 : (1 : Int) ≤ label.size := by omega
    have d2 : (16 : Int) < label.size := by omega
    go_enter Tryz.func394, Tryz.ntmps394
    go_wp2_with fail
    go_ret2
    exact ⟨.inr ⟨saidNo_2 (show 16 < label.data.toList.length from c2), rfl⟩, Below.refl _ _⟩
  have d1 : (1 : Int) ≤ label.size := by omega
  have d2 : (label.size : Int) ≤ 16 := by omega
  by_cases c3 : 8 < xs.length
  · have d3 : (8 : Int) < xs.length := by omega
    go_enter Tryz.func394, Tryz.ntmps394
    go_wp2_with fail
    go_ret2
    exact ⟨.inr ⟨saidNo_3 c3, rfl⟩, Below.refl _ _⟩
  have d3 : (xs.length : Int) ≤ 8 := by omega
  obtain ⟨b, Hb⟩ : ∃ b : UInt8, Hid (b = UInt8.ofNat xs.length) := ⟨_, rfl⟩
  have hconv := conv_one b (IntKind.u8.wrap xs.length) (by rw [Hb.out, IntKind.wrap_u8]; simp)
  have hT : (textL label.data.toList).length ≤ 20 := by rw [textL_length]; show 4 + label.size ≤ 20; omega
  have HT := Lib.hid hT; clear hT
  go_enter Tryz.func394, Tryz.ntmps394
  go_wp2_with fail
  go_cut [6] from 23 to 30 (fun s6 wc => ∃ r, s6 = .string r ∧ Txt r (saidTo label.data.toList xs 0) ∧ Below w.heap.size w wc)
  case first =>
    go_region_with ((go_at_call 425; refine (rtext01_walk label _ (by omega)).mono ?_; rintro e w2 ⟨r, rfl, tr, hb2⟩; have hr : r.size ≤ 20 := (by rw [tr.size]; exact HT.out); have hq := fun (h : w.heap.size < _) => hb2.cell (p := ⟨w.heap.size, 0, none⟩) h))
    all_goals go_wp2_with fail
    all_goals go_meet
    case rel => exact ⟨_, rfl, (tr.append (Txt.mk [b])).cast (by rw [saidTo_zero, Hb.out]), ((Below.refl _ _).drew.trans (hb2.mono (by simp))).alloc (by have := hb2.size; simp at this; omega) _⟩
    all_goals exact ⟨_, rfl, (tr.append (Txt.mk [b])).cast (by rw [saidTo_zero, Hb.out]), ((Below.refl w.heap.size w).drew.alloc (by simp) _).trans (hb2.mono (by simp))⟩
  case rest =>
    clear hconv
    obtain ⟨r, rfl, tr, hbel⟩ := hcut
    go_wp2_with fail
    go_loopw [6, 7] (fun v i wr => ∃ (k : Nat) (q : ByteArray), k ≤ xs.length ∧ v = .string q ∧ i = .int .i64 k ∧ Txt q (saidTo label.data.toList xs k) ∧ Below w.heap.size w wr ∧ ∀ (i : Nat) (x : Int), i < k → xs[i]? = some x → 0 ≤ x) (fun _ i _ => xs.length - (intOf i).toNat)
    case atStart => exact ⟨0, r, by omega, rfl, rfl, tr, hbel, fun i x h => by omega⟩
    case round =>
      clear tr hbel
      obtain ⟨k, q, hk, rfl, rfl, tq, hbel, hpos⟩ := hrel
      have HP := Lib.hid hpos; clear hpos
      have hq : q.size ≤ 85 := by
        rw [tq.size]
        have h1 := saidTo_length label.data.toList xs k
        have h2 : label.data.toList.length = label.size := rfl
        omega
      by_cases hlt : k < xs.length
      · have hlt' : (k : Int) < xs.length := by omega
        obtain ⟨x, hxk⟩ : ∃ x, xs[k]? = some x := ⟨_, List.getElem?_eq_getElem hlt⟩
        have ck : wr.cell? ⟨g, o + k, none⟩ = some (.int .i64 x) := by
          rw [hbel.cell (by show g < w.heap.size; exact hg)]; exact Hc.out k x hxk
        have h63 := HX.out k x hxk
        have HXk := Lib.hid hxk; clear hxk
        by_cases hneg : x < 0
        · go_wp2_with fail
          refine (rput_walk x 8 _ h63.lt).mono ?_
          rintro e w5 ⟨he, hb5⟩
          have he := he.no (by omega)
          subst he
          go_wp2_with fail
          go_ret2
          exact ⟨.inr ⟨saidNo_4 HXk.out hneg, rfl⟩, hbel.trans (hb5.mono hbel.size)⟩
        · obtain ⟨n, hn⟩ : ∃ n : Nat, x = (n : Int) := ⟨x.toNat, by omega⟩
          subst hn
          go_wp2_with fail
          refine (rput_walk n 8 _ h63.lt).mono ?_
          rintro e w5 ⟨he, hb5⟩
          obtain ⟨p, rfl, tp⟩ := he.yes ⟨by omega, by omega, by omega, by have := h63.lt; show n < 256 ^ 8; omega⟩
          clear he
          have hp : p.size ≤ 8 := by rw [tp.size, beBytes_length]; simp
          go_wp2_with fail
          go_roundw
          case rel =>
            refine ⟨k + 1, _, by omega, rfl, by go_num, ?_, hbel.trans (hb5.mono hbel.size), ?_⟩
            · rw [saidTo_succ _ _ _ _ HXk.out, Int.toNat_natCast]; exact tq.append tp
            · intro i y hi hy
              by_cases e : i = k
              · rw [e] at hy
                have h2 := Option.some.inj (HXk.out.symm.trans hy)
                omega
              · exact HP.out i y (by omega) hy
          case measure => simp [intOf]; omega
      · obtain rfl : k = xs.length := by omega
        go_wp2_with fail
        go_ret2
        exact ⟨.inl ⟨saidOk_of (show 1 ≤ label.size by omega) (show label.size ≤ 16 by omega) (by omega) (fun i x h => HP.out i x (List.getElem?_eq_some_iff.1 h).1 h), q, rfl, tq.cast (saidTo_all _ _)⟩, hbel⟩

theorem rsaid_walk (label : ByteArray) (v : Value) (xs : List Int) (w : World) (h : IntRow w v xs) (hx : ∀ (j : Nat) (x : Int), xs[j]? = some x → x < 9223372036854775808) (hxl : xs.length ≤ 1073741824) :
    Calls Tryz.prog 394 #[.string label, v] w fun e w' => SaidEnd label.data.toList xs e ∧ Below w.heap.size w w' := by
  rcases h with ⟨rfl, p, c, rfl⟩ | ⟨g, o, c, rfl, hg, hc⟩
  · exact rsaid_nil label p c w
  · exact rsaid_row label g o c xs w hg hc hx hxl
end Go.Proofs.YtppdboadjefieaaGreat
namespace Go.Proofs.YtppdboadjefieaaGreat
set_option linter.unusedSimpArgs false
set_option linter.unusedVariables false
open Go Go.RowKit
set_option linter.unusedVariables false

end Go.Proofs.YtppdboadjefieaaGreat
namespace Go.Proofs.YtppdboadjefieaaGreat
set_option linter.unusedSimpArgs false
set_option linter.unusedVariables false
open Go Go.RowKit
set_option linter.unusedVariables false

/-- How Made ends. -/
def MadeEnd (key label : List UInt8) (xs : List Int) (e : Ending) : Prop :=
  ((key.length = 32 ∧ saidOk label xs = true) ∧ ∃ r, e = .returned (.tuple #[.string r, .bool true]) ∧ Txt r (madeL key label (xs.map Int.toNat))) ∨
  (¬ (key.length = 32 ∧ saidOk label xs = true) ∧ e = .returned (.tuple #[.string ⟨#[]⟩, .bool false]))

theorem rmade_walk (key label : ByteArray) (v : Value) (xs : List Int) (w : World) (h : IntRow w v xs) (hx : ∀ (j : Nat) (x : Int), xs[j]? = some x → x < 9223372036854775808) (hxl : xs.length ≤ 1073741824) :
    Calls Tryz.prog 338 #[.string key, .string label, v] w fun e w' => MadeEnd key.data.toList label.data.toList xs e ∧ Below w.heap.size w w' := by
  have Hx : ∀ (j : Nat) (x : Int), xs[j]? = some x → I64 x := fun j x h => ⟨hx j x h⟩
  clear hx
  have HX := Lib.hid Hx; clear Hx
  have H := Lib.hid h; clear h
  by_cases c1 : key.size = 32
  · have d1 : (key.size : Int) = 32 := by omega
    go_enter Tryz.func338, Tryz.ntmps338
    go_wp2_with fail
    refine (rsaid_walk label v xs _ H.out (fun j x h => (HX.out j x h).lt) hxl).mono ?_
    rintro e w1 ⟨⟨hok, r, rfl, tr⟩ | ⟨hno, rfl⟩, hb1⟩
    · have hlen := saidOk_len hok
      have hr : r.size ≤ 85 := by rw [tr.size, saidL_length, List.length_map]; omega
      have HK := Lib.hid hok; clear hok hlen
      go_wp2_with fail
      refine (rmac_walk key r _ (by omega) (by omega)).mono ?_
      rintro e w2 ⟨q, rfl, tq, hb2⟩
      go_wp2_with fail
      go_ret2
      exact ⟨.inl ⟨⟨c1, HK.out⟩, q, rfl, tq.cast (by rw [tr]; rfl)⟩, hb1.trans (hb2.mono hb1.size)⟩
    · have HN := Lib.hid hno; clear hno
      go_wp2_with fail
      go_ret2
      exact ⟨.inr ⟨fun hh => by rw [HN.out] at hh; exact absurd hh.2 (by decide), rfl⟩, hb1⟩
  · have d1 : ¬ (key.size : Int) = 32 := by omega
    go_enter Tryz.func338, Tryz.ntmps338
    go_wp2_with fail
    refine (rsaid_walk label v xs _ H.out (fun j x h => (HX.out j x h).lt) hxl).mono ?_
    rintro e w1 ⟨⟨hok, r, rfl, tr⟩ | ⟨hno, rfl⟩, hb1⟩
    · have HK := Lib.hid hok; clear hok
      go_wp2_with fail
      go_ret2
      exact ⟨.inr ⟨fun hh => c1 hh.1, rfl⟩, hb1⟩
    · have HN := Lib.hid hno; clear hno
      go_wp2_with fail
      go_ret2
      exact ⟨.inr ⟨fun hh => c1 hh.1, rfl⟩, hb1⟩
end Go.Proofs.YtppdboadjefieaaGreat
namespace Go.Proofs.YtppdboadjefieaaGreat
set_option linter.unusedSimpArgs false
set_option linter.unusedVariables false
open Go Go.RowKit
set_option linter.unusedVariables false

theorem beNum_foldl (l : List UInt8) (a : Nat) : l.foldl (fun n b => 256 * n + b.toNat) a = a * 256 ^ l.length + beNum l := by
  induction l generalizing a with
  | nil => simp [beNum]
  | cons b r ih =>
    unfold beNum
    rw [List.foldl_cons, ih, List.foldl_cons, ih (256 * 0 + b.toNat), List.length_cons, Nat.pow_succ, Nat.add_mul]
    rw [Nat.mul_zero, Nat.zero_add, show 256 * a * 256 ^ r.length = a * (256 ^ r.length * 256) by rw [Nat.mul_comm 256 a, Nat.mul_assoc, Nat.mul_comm 256]]
    omega
theorem beNum_cons (b : UInt8) (r : List UInt8) : beNum (b :: r) = b.toNat * 256 ^ r.length + beNum r := by
  unfold beNum
  rw [List.foldl_cons, beNum_foldl]
  simp [beNum]
theorem beNum_head {l : List UInt8} {c : UInt8} {n : Nat} (hc : l[0]? = some c) (hn : l.length = n) : c.toNat * 256 ^ (n - 1) ≤ beNum l ∧ beNum l < (c.toNat + 1) * 256 ^ (n - 1) := by
  subst hn
  cases l with
  | nil => simp at hc
  | cons b r =>
    simp at hc
    subst hc
    rw [beNum_cons]
    have := beNum_lt r
    simp only [List.length_cons, Nat.add_sub_cancel, Nat.add_mul]
    omega
theorem get_or (x b : Nat) (hx : x < 36028797018963968) (hb : b < 256) : bits BinOp.or IntKind.i64 ((x : Int) * 256) ((b : Nat) : Int) = ((256 * x + b : Nat) : Int) := by
  rw [show (x : Int) * 256 = ((x * 256 : Nat) : Int) by simp, i64_or_nat _ _ (by omega) (by omega)]
  have := Nat.two_pow_add_eq_or_of_lt (i := 8) (b := b) (by omega) x
  rw [show x * 256 = 2 ^ 8 * x by omega, ← this]

set_option maxHeartbeats 1000000 in
theorem oget_walk (s : ByteArray) (w : World) :
    Calls Tryz.prog 289 #[.string s] w fun e w' => GetEnd s.data.toList e ∧ w = w' := by
  have hl : s.data.toList.length = s.size := rfl
  have HL := Lib.hid hl; clear hl
  by_cases c1 : s.size < 1
  · have d1 := emptyText c1
    have d0 : (s.size : Int) < 1 := by omega
    go_enter Tryz.func289, Tryz.ntmps289
    go_wp2_with fail
    go_ret2
    exact ⟨.inr ⟨by rw [HL.out]; omega, rfl⟩, rfl⟩
  have d1 := someText (s := s) (by omega)
  by_cases c2 : 8 < s.size
  · have d2 : (8 : Int) < s.size := by omega
    go_enter Tryz.func289, Tryz.ntmps289
    go_wp2_with fail
    go_ret2
    exact ⟨.inr ⟨by rw [HL.out]; omega, rfl⟩, rfl⟩
  have d2 : (s.size : Int) ≤ 8 := by omega
  have h0 : 0 < s.size := by omega
  by_cases c3 : s.size = 8 ∧ 127 < s[0].toNat
  · obtain ⟨c4, c5⟩ := c3
    have d4 : (s.size : Int) = 8 := by omega
    have d3 : (127 : Int) < (s[0].toNat : Int) := by omega
    have hbig : ¬ beNum s.data.toList < 9223372036854775808 := by
      have := (beNum_head (l := s.data.toList) (c := s[0]) (by rw [List.getElem?_eq_getElem (by rw [HL.out]; exact h0)]; rfl) (HL.out.trans c4)).1
      omega
    have HB := Lib.hid hbig; clear hbig
    go_enter Tryz.func289, Tryz.ntmps289
    go_wp2_with fail
    go_ret2
    exact ⟨.inr ⟨fun h => HB.out h.2.2, rfl⟩, rfl⟩
  have hok : ∀ k, beNum (s.data.toList.take k) < 9223372036854775808 := by
    intro k
    refine Nat.lt_of_le_of_lt (beNum_mono _ k) ?_
    by_cases c4 : s.size = 8
    · have h1 : s[0].toNat ≤ 127 := by omega
      have := (beNum_head (l := s.data.toList) (c := s[0]) (by rw [List.getElem?_eq_getElem (by rw [HL.out]; exact h0)]; rfl) (HL.out.trans c4)).2
      omega
    · have h1 := beNum_lt s.data.toList
      rw [HL.out] at h1
      exact Nat.lt_trans h1 (Nat.lt_of_le_of_lt (Nat.pow_le_pow_right (by omega) (show s.size ≤ 7 by omega)) (by omega))
  have HK := Lib.hid hok; clear hok
  by_cases c4 : s.size = 8
  · have d4 : (s.size : Int) = 8 := by omega
    obtain ⟨b0, hb0⟩ : ∃ b0, s[0] = b0 := ⟨_, rfl⟩
    rw [hb0] at c3
    have d3 : (b0.toNat : Int) ≤ 127 := by omega
    clear c3 d2
    go_enter Tryz.func289, Tryz.ntmps289
    go_wp2_with fail
    clear hb0 d3
    go_loopw [4, 25] (fun a i wr => ∃ k : Nat, k ≤ 8 ∧ i = .int .i64 k ∧ a = .int .i64 ((beNum (s.data.toList.take k) : Nat) : Int) ∧ w = wr) (fun a i _ => 8 - (intOf i).toNat)
    case atStart => exact ⟨0, by omega, rfl, rfl, rfl⟩
    case round =>
      obtain ⟨k, hk, rfl, rfl, rfl⟩ := hrel
      obtain ⟨x, Hx⟩ : ∃ x, Hid (x = beNum (s.data.toList.take k)) := ⟨_, rfl⟩
      rw [← Hx.out]
      by_cases hlt : k < 8
      · have hlt' : (k : Int) < 8 := by omega
        have hks : k < s.size := by omega
        have e1 := beNum_take s.data.toList k (by rw [HL.out]; exact hks)
        have e3 : s.data.toList[k]'(by rw [HL.out]; exact hks) = s[k] := rfl
        rw [e3, ← Hx.out] at e1
        have e2 := HK.out (k + 1)
        rw [e1] at e2
        have E1 := Lib.hid e1; clear e1 e3
        have hb := s[k].toNat_lt
        have x1 : (x : Int) < 36028797018963968 := by omega
        have x2 : 256 * (x : Int) + (s[k].toNat : Int) < 9223372036854775808 := by omega
        go_wp2_with fail
        go_roundw
        case rel =>
          refine ⟨k + 1, by omega, by go_num, ?_, by trivial⟩
          rw [E1.out]
          rw [get_or x _ (by omega) (by omega)]
        case measure => simp [intOf]; omega
      · obtain rfl : k = 8 := by omega
        have e4 : Hid (x = beNum s.data.toList) := by show x = _; rw [Hx.out, List.take_of_length_le (by rw [HL.out]; omega)]
        have e5 : x < 9223372036854775808 := by have := HK.out 8; rw [← Hx.out] at this; exact this
        have E5 := Lib.hid e5; clear e5
        go_wp2_with fail
        go_ret2
        refine ⟨.inl ⟨⟨by rw [HL.out]; omega, by rw [HL.out]; omega, by rw [← e4.out]; exact E5.out⟩, ?_⟩, rfl⟩
        rw [← e4.out]; rfl
  · have d4 : (s.size : Int) ≤ 7 := by omega
    have d5 : ¬ (s.size : Int) = 8 := by omega
    clear c3 d2
    go_enter Tryz.func289, Tryz.ntmps289
    go_wp2_with fail
    clear d5
    go_loopw [4, 25] (fun a i wr => ∃ k : Nat, k ≤ s.size ∧ i = .int .i64 k ∧ a = .int .i64 ((beNum (s.data.toList.take k) : Nat) : Int) ∧ w = wr) (fun a i _ => 8 - (intOf i).toNat)
    case atStart => exact ⟨0, by omega, rfl, rfl, rfl⟩
    case round =>
      obtain ⟨k, hk, rfl, rfl, rfl⟩ := hrel
      obtain ⟨x, Hx⟩ : ∃ x, Hid (x = beNum (s.data.toList.take k)) := ⟨_, rfl⟩
      rw [← Hx.out]
      by_cases hlt : k < s.size
      · have hlt' : (k : Int) < s.size := by omega
        have hks : k < s.size := by omega
        have e1 := beNum_take s.data.toList k (by rw [HL.out]; exact hks)
        have e3 : s.data.toList[k]'(by rw [HL.out]; exact hks) = s[k] := rfl
        rw [e3, ← Hx.out] at e1
        have e2 := HK.out (k + 1)
        rw [e1] at e2
        have E1 := Lib.hid e1; clear e1 e3
        have hb := s[k].toNat_lt
        have x1 : (x : Int) < 36028797018963968 := by omega
        have x2 : 256 * (x : Int) + (s[k].toNat : Int) < 9223372036854775808 := by omega
        go_wp2_with fail
        go_roundw
        case rel =>
          refine ⟨k + 1, by omega, by go_num, ?_, by trivial⟩
          rw [E1.out]
          rw [get_or x _ (by omega) (by omega)]
        case measure => simp [intOf]; omega
      · obtain rfl : k = s.size := by omega
        have e4 : Hid (x = beNum s.data.toList) := by show x = _; rw [Hx.out, List.take_of_length_le (by rw [HL.out]; omega)]
        have e5 : x < 9223372036854775808 := by have := HK.out s.size; rw [← Hx.out] at this; exact this
        have E5 := Lib.hid e5; clear e5
        go_wp2_with fail
        go_ret2
        refine ⟨.inl ⟨⟨by rw [HL.out]; omega, by rw [HL.out]; omega, by rw [← e4.out]; exact E5.out⟩, ?_⟩, rfl⟩
        rw [← e4.out]; rfl

set_option maxHeartbeats 1000000 in
theorem rget_walk (s : ByteArray) (w : World) :
    Calls Tryz.prog 297 #[.string s] w fun e w' => GetEnd s.data.toList e ∧ w = w' := by
  have hl : s.data.toList.length = s.size := rfl
  have HL := Lib.hid hl; clear hl
  by_cases c1 : s.size < 1
  · skip
    have d0 : (s.size : Int) < 1 := by omega
    go_enter Tryz.func297, Tryz.ntmps297
    go_wp2_with fail
    go_ret2
    exact ⟨.inr ⟨by rw [HL.out]; omega, rfl⟩, rfl⟩
  have d1 : (1 : Int) ≤ s.size := by omega
  by_cases c2 : 8 < s.size
  · have d2 : (8 : Int) < s.size := by omega
    go_enter Tryz.func297, Tryz.ntmps297
    go_wp2_with fail
    go_ret2
    exact ⟨.inr ⟨by rw [HL.out]; omega, rfl⟩, rfl⟩
  have d2 : (s.size : Int) ≤ 8 := by omega
  have h0 : 0 < s.size := by omega
  by_cases c3 : s.size = 8 ∧ 127 < s[0].toNat
  · obtain ⟨c4, c5⟩ := c3
    have d4 : (s.size : Int) = 8 := by omega
    have d3 : (128 : Int) ≤ (s[0].toNat : Int) := by omega
    have hbig : ¬ beNum s.data.toList < 9223372036854775808 := by
      have := (beNum_head (l := s.data.toList) (c := s[0]) (by rw [List.getElem?_eq_getElem (by rw [HL.out]; exact h0)]; rfl) (HL.out.trans c4)).1
      omega
    have HB := Lib.hid hbig; clear hbig
    go_enter Tryz.func297, Tryz.ntmps297
    go_wp2_with fail
    go_ret2
    exact ⟨.inr ⟨fun h => HB.out h.2.2, rfl⟩, rfl⟩
  have hok : ∀ k, beNum (s.data.toList.take k) < 9223372036854775808 := by
    intro k
    refine Nat.lt_of_le_of_lt (beNum_mono _ k) ?_
    by_cases c4 : s.size = 8
    · have h1 : s[0].toNat ≤ 127 := by omega
      have := (beNum_head (l := s.data.toList) (c := s[0]) (by rw [List.getElem?_eq_getElem (by rw [HL.out]; exact h0)]; rfl) (HL.out.trans c4)).2
      omega
    · have h1 := beNum_lt s.data.toList
      rw [HL.out] at h1
      exact Nat.lt_trans h1 (Nat.lt_of_le_of_lt (Nat.pow_le_pow_right (by omega) (show s.size ≤ 7 by omega)) (by omega))
  have HK := Lib.hid hok; clear hok
  by_cases c4 : s.size = 8
  · have d4 : (s.size : Int) = 8 := by omega
    obtain ⟨b0, hb0⟩ : ∃ b0, s[0] = b0 := ⟨_, rfl⟩
    rw [hb0] at c3
    have d3 : decide ((128 : Int) ≤ (b0.toNat : Int)) = false := by rw [decide_eq_false_iff_not]; omega
    clear c3 d2
    go_enter Tryz.func297, Tryz.ntmps297
    go_wp2_with fail
    clear hb0 d3
    go_loopw [4, 5] (fun a i wr => ∃ k : Nat, k ≤ 8 ∧ i = .int .i64 k ∧ a = .int .i64 ((beNum (s.data.toList.take k) : Nat) : Int) ∧ w = wr) (fun a i _ => 8 - (intOf i).toNat)
    case atStart => exact ⟨0, by omega, rfl, rfl, rfl⟩
    case round =>
      obtain ⟨k, hk, rfl, rfl, rfl⟩ := hrel
      obtain ⟨x, Hx⟩ : ∃ x, Hid (x = beNum (s.data.toList.take k)) := ⟨_, rfl⟩
      rw [← Hx.out]
      by_cases hlt : k < 8
      · have hlt' : (k : Int) < 8 := by omega
        have hks : k < s.size := by omega
        have e1 := beNum_take s.data.toList k (by rw [HL.out]; exact hks)
        have e3 : s.data.toList[k]'(by rw [HL.out]; exact hks) = s[k] := rfl
        rw [e3, ← Hx.out] at e1
        have e2 := HK.out (k + 1)
        rw [e1] at e2
        have E1 := Lib.hid e1; clear e1 e3
        have hb := s[k].toNat_lt
        have x1 : (x : Int) < 36028797018963968 := by omega
        have x2 : 256 * (x : Int) + (s[k].toNat : Int) < 9223372036854775808 := by omega
        go_wp2_with fail
        go_roundw
        case rel =>
          refine ⟨k + 1, by omega, by go_num, ?_, by trivial⟩
          rw [E1.out]
          simp
        case measure => simp [intOf]; omega
      · obtain rfl : k = 8 := by omega
        have e4 : Hid (x = beNum s.data.toList) := by show x = _; rw [Hx.out, List.take_of_length_le (by rw [HL.out]; omega)]
        have e5 : x < 9223372036854775808 := by have := HK.out 8; rw [← Hx.out] at this; exact this
        have E5 := Lib.hid e5; clear e5
        go_wp2_with fail
        go_ret2
        refine ⟨.inl ⟨⟨by rw [HL.out]; omega, by rw [HL.out]; omega, by rw [← e4.out]; exact E5.out⟩, ?_⟩, rfl⟩
        rw [← e4.out]; rfl
  · have d4 : (s.size : Int) ≤ 7 := by omega
    have d5 : ¬ (s.size : Int) = 8 := by omega
    clear c3 d2
    go_enter Tryz.func297, Tryz.ntmps297
    go_wp2_with fail
    clear d5
    go_loopw [4, 5] (fun a i wr => ∃ k : Nat, k ≤ s.size ∧ i = .int .i64 k ∧ a = .int .i64 ((beNum (s.data.toList.take k) : Nat) : Int) ∧ w = wr) (fun a i _ => 8 - (intOf i).toNat)
    case atStart => exact ⟨0, by omega, rfl, rfl, rfl⟩
    case round =>
      obtain ⟨k, hk, rfl, rfl, rfl⟩ := hrel
      obtain ⟨x, Hx⟩ : ∃ x, Hid (x = beNum (s.data.toList.take k)) := ⟨_, rfl⟩
      rw [← Hx.out]
      by_cases hlt : k < s.size
      · have hlt' : (k : Int) < s.size := by omega
        have hks : k < s.size := by omega
        have e1 := beNum_take s.data.toList k (by rw [HL.out]; exact hks)
        have e3 : s.data.toList[k]'(by rw [HL.out]; exact hks) = s[k] := rfl
        rw [e3, ← Hx.out] at e1
        have e2 := HK.out (k + 1)
        rw [e1] at e2
        have E1 := Lib.hid e1; clear e1 e3
        have hb := s[k].toNat_lt
        have x1 : (x : Int) < 36028797018963968 := by omega
        have x2 : 256 * (x : Int) + (s[k].toNat : Int) < 9223372036854775808 := by omega
        go_wp2_with fail
        go_roundw
        case rel =>
          refine ⟨k + 1, by omega, by go_num, ?_, by trivial⟩
          rw [E1.out]
          simp
        case measure => simp [intOf]; omega
      · obtain rfl : k = s.size := by omega
        have e4 : Hid (x = beNum s.data.toList) := by show x = _; rw [Hx.out, List.take_of_length_le (by rw [HL.out]; omega)]
        have e5 : x < 9223372036854775808 := by have := HK.out s.size; rw [← Hx.out] at this; exact this
        have E5 := Lib.hid e5; clear e5
        go_wp2_with fail
        go_ret2
        refine ⟨.inl ⟨⟨by rw [HL.out]; omega, by rw [HL.out]; omega, by rw [← e4.out]; exact E5.out⟩, ?_⟩, rfl⟩
        rw [← e4.out]; rfl
end Go.Proofs.YtppdboadjefieaaGreat
