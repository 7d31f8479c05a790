/- Secrets held against each other (chapter 7): gather, nought, Bit, Equal, Any. -/
import Derived.Test.YtppdboadjefieaaGreatG3
import Derived.Laws.BitsAllLaws
import Derived.Deep.QuietTactic
namespace Go.Proofs.YtppdboadjefieaaGreat
set_option linter.unusedSimpArgs false
set_option linter.unusedVariables false
open Go Go.RowKit
set_option linter.unusedVariables false
set_option maxRecDepth 100000

/-- The first bytes that are told, put together. -/
def orTo (g : Nat → UInt8) : Nat → UInt8
  | 0 => 0
  | k + 1 => orTo g k ||| g k
theorem or_nought (a b : UInt8) : a ||| b = 0 ↔ a = 0 ∧ b = 0 := by
  constructor
  · intro h
    have h1 := congrArg UInt8.toNat h
    rw [UInt8.toNat_or] at h1
    have h2 : a.toNat = 0 ∧ b.toNat = 0 := by simpa using h1
    exact ⟨UInt8.toNat_inj.1 (by simpa using h2.1), UInt8.toNat_inj.1 (by simpa using h2.2)⟩
  · rintro ⟨rfl, rfl⟩; rfl
theorem orTo_nought (g : Nat → UInt8) : ∀ n, orTo g n = 0 ↔ ∀ k, k < n → g k = 0
  | 0 => by simp [orTo]
  | n + 1 => by
    unfold orTo
    rw [or_nought, orTo_nought g n]
    exact ⟨fun ⟨h1, h2⟩ k hk => by
      rcases Nat.lt_succ_iff_lt_or_eq.1 hk with h | rfl
      · exact h1 k h
      · exact h2, fun h => ⟨fun k hk => h k (by omega), h n (by omega)⟩⟩
theorem nought_walk (b : UInt8) (w : World) :
    Calls Tryz.prog 356 #[.int .u8 ((b.toNat : Nat) : Int)] w fun e w' => e = .returned (.int .i64 (if b = 0 then 1 else 0)) ∧ w = w' := by
  have hlt := b.toNat_lt
  by_cases h : b = 0
  · subst h
    rw [if_pos rfl]
    go_enter Tryz.func356, Tryz.ntmps356
    go_wp2_with fail
    go_ret
    exact ⟨rfl, rfl⟩
  · rw [if_neg h]
    obtain ⟨m, hm⟩ : ∃ m : Nat, b.toNat = m + 1 := ⟨b.toNat - 1, by
      have : b.toNat ≠ 0 := fun h0 => h (UInt8.toNat_inj.1 (by simpa using h0))
      omega⟩
    rw [hm]
    go_enter Tryz.func356, Tryz.ntmps356
    go_wp2_with fail
    go_ret
    refine ⟨?_, rfl⟩
    have hz : (m : Int) / 256 = 0 := by omega
    show Ending.returned (.int .i64 (bits BinOp.and IntKind.i64 ((m : Int) / 256) 1)) = _
    rw [hz]
    rfl
set_option maxHeartbeats 1000000 in
theorem gather1_walk (n : Nat) (p0 : Value) (g : Nat → UInt8) (I : World → Prop) (w : World) (hI : I w) (hn : n ≤ 1048576)
    (hF : ∀ (k : Nat) (wx : World), k < n → I wx → Calls Tryz.prog 457 #[.int .i64 (k : Int), p0] wx fun e w' => e = .returned (.int .u8 (((g k).toNat : Nat) : Int)) ∧ I w') :
    Calls Tryz.prog 357 #[.int .i64 n, .func (.func 457) #[] #[p0]] w fun e w' => e = .returned (.int .u8 (((orTo g n).toNat : Nat) : Int)) ∧ I w' := by
  have HF := Lib.hid hF
  clear hF
  go_enter Tryz.func357, Tryz.ntmps357
  go_wp2_with fail
  go_loopw [5, 8] (fun a i wr => ∃ k : Nat, k ≤ n ∧ a = .int .u8 (((orTo g k).toNat : Nat) : Int) ∧ i = .int .i64 k ∧ I wr) (fun _ i _ => n - (intOf i).toNat)
  case atStart => exact ⟨0, by omega, rfl, rfl, hI⟩
  case round =>
    obtain ⟨k, hk, rfl, rfl, hIk⟩ := hrel
    by_cases hlt : k < n
    · have hlt' : (k : Int) < n := by omega
      go_wp2_with fail
      refine (HF.out k _ hlt hIk).mono ?_
      rintro e w2 ⟨rfl, hI2⟩
      have h1 := (orTo g k).toNat_lt
      have h2 := (g k).toNat_lt
      have hor := u8_or_nat (orTo g k).toNat (g k).toNat (by simpa using h1) (by simpa using h2)
      have HOR := Lib.hid hor
      clear hor
      go_wp2_with fail
      go_roundw
      case rel => exact ⟨k + 1, by omega, by rw [HOR.out, show orTo g (k + 1) = orTo g k ||| g k from rfl, UInt8.toNat_or], by go_num, hI2⟩
      case measure => simp [intOf]; omega
    · obtain rfl : k = n := by omega
      go_wp2_with fail
      go_ret
      exact ⟨rfl, hIk⟩
set_option maxHeartbeats 1000000 in
theorem gather2_walk (n : Nat) (p0 p1 : Value) (g : Nat → UInt8) (I : World → Prop) (w : World) (hI : I w) (hn : n ≤ 1048576)
    (hF : ∀ (k : Nat) (wx : World), k < n → I wx → Calls Tryz.prog 358 #[.int .i64 (k : Int), p0, p1] wx fun e w' => e = .returned (.int .u8 (((g k).toNat : Nat) : Int)) ∧ I w') :
    Calls Tryz.prog 357 #[.int .i64 n, .func (.func 358) #[] #[p0, p1]] w fun e w' => e = .returned (.int .u8 (((orTo g n).toNat : Nat) : Int)) ∧ I w' := by
  have HF := Lib.hid hF
  clear hF
  go_enter Tryz.func357, Tryz.ntmps357
  go_wp2_with fail
  go_loopw [5, 8] (fun a i wr => ∃ k : Nat, k ≤ n ∧ a = .int .u8 (((orTo g k).toNat : Nat) : Int) ∧ i = .int .i64 k ∧ I wr) (fun _ i _ => n - (intOf i).toNat)
  case atStart => exact ⟨0, by omega, rfl, rfl, hI⟩
  case round =>
    obtain ⟨k, hk, rfl, rfl, hIk⟩ := hrel
    by_cases hlt : k < n
    · have hlt' : (k : Int) < n := by omega
      go_wp2_with fail
      refine (HF.out k _ hlt hIk).mono ?_
      rintro e w2 ⟨rfl, hI2⟩
      have h1 := (orTo g k).toNat_lt
      have h2 := (g k).toNat_lt
      have hor := u8_or_nat (orTo g k).toNat (g k).toNat (by simpa using h1) (by simpa using h2)
      have HOR := Lib.hid hor
      clear hor
      go_wp2_with fail
      go_roundw
      case rel => exact ⟨k + 1, by omega, by rw [HOR.out, show orTo g (k + 1) = orTo g k ||| g k from rfl, UInt8.toNat_or], by go_num, hI2⟩
      case measure => simp [intOf]; omega
    · obtain rfl : k = n := by omega
      go_wp2_with fail
      go_ret
      exact ⟨rfl, hIk⟩
theorem any1_walk (s : ByteArray) (b1 : Nat) (k : Nat) (hk : k < s.size) (w : World) (hb : Blk w b1 [.string s] 9) :
    Calls Tryz.prog 457 #[.int .i64 (k : Int), .pointer (some ⟨b1, 0, none⟩)] w fun e w' => e = .returned (.int .u8 (((s.data.toList.getD k 0).toNat : Nat) : Int)) ∧ w = w' := by
  have c0 := hb.cell (i := 0) rfl
  have h0 : (0 : Int) ≤ (k : Int) := by omega
  have h1 : (k : Int) < s.size := by omega
  go_enter Tryz.func457, Tryz.ntmps457
  go_wp2_with fail
  go_ret
  refine ⟨?_, rfl⟩
  have hg : s.data.toList.getD k 0 = s[k] := by
    have hk2 : k < s.data.toList.length := hk
    rw [List.getD, List.getElem?_eq_getElem hk2]
    rfl
  rw [hg]
  rfl
theorem bit1_walk (a s : ByteArray) (b1 b2 : Nat) (k : Nat) (hk : k < a.size) (hk2 : k < s.size) (w : World) (ha : Blk w b1 [.string a] 9) (hb : Blk w b2 [.string s] 9) :
    Calls Tryz.prog 358 #[.int .i64 (k : Int), .pointer (some ⟨b1, 0, none⟩), .pointer (some ⟨b2, 0, none⟩)] w fun e w' => e = .returned (.int .u8 (((a.data.toList.getD k 0 ^^^ s.data.toList.getD k 0).toNat : Nat) : Int)) ∧ w' = w.drew := by
  have c0 := ha.cell (i := 0) rfl
  have c1 := hb.cell (i := 0) rfl
  have h0 : (0 : Int) ≤ (k : Int) := by omega
  have h1 : (k : Int) < a.size := by omega
  have h2 : (k : Int) < s.size := by omega
  have hga : a.data.toList.getD k 0 = a[k] := by
    have hk2 : k < a.data.toList.length := hk
    rw [List.getD, List.getElem?_eq_getElem hk2]
    rfl
  have hgs : s.data.toList.getD k 0 = s[k] := by
    have hk2 : k < s.data.toList.length := hk2
    rw [List.getD, List.getElem?_eq_getElem hk2]
    rfl
  have hf : Hid (bits BinOp.xor IntKind.u8 ((a[k].toNat : Nat) : Int) ((s[k].toNat : Nat) : Int) = (((a[k] ^^^ s[k]).toNat : Nat) : Int)) := by
    show _ = _
    have h1 := a[k].toNat_lt
    have h2 := s[k].toNat_lt
    rw [u8_xor_nat _ _ (by simpa using h1) (by simpa using h2)]; simp
  go_enter Tryz.func358, Tryz.ntmps358
  go_wp2_with fail
  refine wp_region_still_drew (by kernel_rfl) (by kernel_rfl) ?_
  iterate 8 still_step
  refine wpStill_nil ?_
  go_wp2_with fail
  go_ret
  refine ⟨?_, rfl⟩
  rw [hga, hgs, ← hf.out]
  rfl
set_option maxHeartbeats 1000000 in
/-- Is one of a text's bytes none of 0? -/
theorem any_walk (s : ByteArray) (w : World) (hs : s.size ≤ 1048576) :
    Calls Tryz.prog 424 #[.string s] w fun e w' => ∃ q : Int, e = .returned (.int .i64 q) ∧ (q = 0 ↔ ∀ k, k < s.size → s.data.toList.getD k 0 = 0) ∧ (q = 0 ∨ q = 1) ∧ Below w.heap.size w w' := by
  have hmf : ∀ (fn : Fn) (first cap : Array Value) (w : World), (Instr.makeFunc fn first cap).run Tryz.prog w = .ok (.func fn first cap) w := fun _ _ _ _ => rfl
  go_enter Tryz.func424, Tryz.ntmps424
  go_wp2_with (first
    | ((with_reducible refine wpList_box_one 9 (.tmp 0) (.string s) rfl (some 1) ?hgd ?ho ?hd ?hx ?_); (case hgd => rfl); (case ho => rfl); (case hd => rfl); (case hx => rfl); (intro b1 w1 l1 B1 e1 z1); (have c0 := B1.cell (i := 0) rfl))
    | fail)
  obtain ⟨g, hg⟩ : ∃ g : Nat → UInt8, g = fun k => s.data.toList.getD k 0 := ⟨_, rfl⟩
  have hgk : ∀ k, s.data.toList.getD k 0 = g k := fun k => by rw [hg]
  have hor := orTo_nought g s.size
  have HG := Lib.hid hgk
  have HOR := Lib.hid hor
  clear hor hgk hg
  refine (gather1_walk s.size (.pointer (some ⟨b1, 0, none⟩)) g (fun wx => Below w.heap.size w wx ∧ Blk wx b1 [.string s] 9) _ ⟨e1.mono l1, B1⟩ hs (fun k wx hk hI => (any1_walk s b1 k hk wx hI.2).mono (by rintro e w' ⟨rfl, rfl⟩; rw [HG.out]; exact ⟨rfl, hI⟩))).mono ?_
  rintro e w2 ⟨rfl, hb2, _⟩
  go_wp2_with fail
  refine (nought_walk _ _).mono ?_
  rintro e w' ⟨rfl, rfl⟩
  by_cases h : orTo g s.size = 0
  · rw [if_pos h]
    have HO := Lib.hid (show ∀ k, k < s.size → s.data.toList.getD k 0 = 0 from fun k hk => by rw [HG.out]; exact HOR.out.1 h k hk)
    have HB := Lib.hid hb2
    clear h hb2
    go_wp2_with fail
    go_ret
    exact ⟨0, rfl, ⟨fun _ => HO.out, fun _ => rfl⟩, .inl rfl, HB.out⟩
  · rw [if_neg h]
    have HO := Lib.hid (show ¬ ∀ k, k < s.size → s.data.toList.getD k 0 = 0 from fun hh => h (HOR.out.2 (fun k hk => by rw [← HG.out]; exact hh k hk)))
    have HB := Lib.hid hb2
    clear h hb2
    go_wp2_with fail
    go_ret
    exact ⟨1, rfl, ⟨fun hh => (by cases hh), fun hh => absurd hh HO.out⟩, .inr rfl, HB.out⟩
theorem xor_nought (a b : UInt8) : a ^^^ b = 0 ↔ a = b := by
  constructor
  · intro h
    have h1 := congrArg (· ^^^ b) h
    simpa [UInt8.xor_assoc] using h1
  · rintro rfl; exact UInt8.toNat_inj.1 (by rw [UInt8.toNat_xor]; simp)
theorem same_list {a b : List UInt8} (hl : a.length = b.length) : (∀ k, k < a.length → a.getD k 0 ^^^ b.getD k 0 = 0) ↔ a = b := by
  constructor
  · intro h
    refine List.ext_getElem hl (fun k h1 h2 => ?_)
    have := (xor_nought _ _).1 (h k h1)
    simpa [List.getD, List.getElem?_eq_getElem h1, List.getElem?_eq_getElem h2] using this
  · rintro rfl k _; exact (xor_nought _ _).2 rfl
set_option maxHeartbeats 1000000 in
theorem bit_walk (a s : ByteArray) (w : World) (hs : a.size ≤ 1048576) (hl : a.size = s.size) :
    Calls Tryz.prog 288 #[.string a, .string s] w fun e w' => ∃ q : Int, e = .returned (.int .i64 q) ∧ (q = 1 ↔ a = s) ∧ (q = 0 ∨ q = 1) ∧ Below w.heap.size w w' := by
  have hmf : ∀ (fn : Fn) (first cap : Array Value) (w : World), (Instr.makeFunc fn first cap).run Tryz.prog w = .ok (.func fn first cap) w := fun _ _ _ _ => rfl
  have HL := Lib.hid hl
  obtain ⟨n, hn⟩ : ∃ n, a.size = n := ⟨_, rfl⟩
  have hn2 : s.size = n := by omega
  have hnn : n ≤ 1048576 := by omega
  clear hl hs
  go_enter Tryz.func288, Tryz.ntmps288
  go_wp2_with (first
    | ((with_reducible refine wpList_box_one 9 (.tmp 0) (.string a) rfl (some 2) ?hgd ?ho ?hd ?hx ?_); (case hgd => rfl); (case ho => rfl); (case hd => rfl); (case hx => rfl); (intro b1 w1 l1 B1 e1 z1); (have c0 := B1.cell (i := 0) rfl))
    | ((with_reducible refine wpList_box_one 9 (.tmp 1) (.string s) rfl (some 3) ?hgd ?ho ?hd ?hx ?_); (case hgd => rfl); (case ho => rfl); (case hd => rfl); (case hx => rfl); (intro b2 w2 l2 B2 e2 z2); (have B1' := B1.below e2 (Nat.lt_of_lt_of_le z1 l2)); (have c0' := B1'.cell (i := 0) rfl); (have c1 := B2.cell (i := 0) rfl))
    | fail)
  have hbel := (e1.mono l1).trans (e2.mono (Nat.le_trans l1 (Nat.le_of_lt (Nat.lt_of_lt_of_le z1 l2))))
  obtain ⟨g, hg⟩ : ∃ g : Nat → UInt8, g = fun k => a.data.toList.getD k 0 ^^^ s.data.toList.getD k 0 := ⟨_, rfl⟩
  have hgk : ∀ k, a.data.toList.getD k 0 ^^^ s.data.toList.getD k 0 = g k := fun k => by rw [hg]
  have hor := orTo_nought g n
  have hsl := same_list (a := a.data.toList) (b := s.data.toList) HL.out
  have hext : a.data.toList = s.data.toList ↔ a = s := ⟨fun h => ByteArray.ext (Array.toList_inj.1 h), fun h => by rw [h]⟩
  have hlen : a.data.toList.length = n := hn
  have hall : orTo g n = 0 ↔ a = s := by
    rw [hor, ← hext, ← hsl, hlen]
    exact ⟨fun h k hk => by rw [hgk]; exact h k hk, fun h k hk => by rw [← hgk]; exact h k hk⟩
  have HG := Lib.hid hgk
  have HALL := Lib.hid hall
  clear hor hgk hg hsl hext hall hlen
  refine (gather2_walk n (.pointer (some ⟨b1, 0, none⟩)) (.pointer (some ⟨b2, 0, none⟩)) g (fun wx => Below w.heap.size w wx ∧ Blk wx b1 [.string a] 9 ∧ Blk wx b2 [.string s] 9) _ ⟨hbel, B1', B2⟩ hnn (fun k wx hk hI => (bit1_walk a s b1 b2 k (by omega) (by omega) wx hI.2.1 hI.2.2).mono (by rintro e w' ⟨rfl, rfl⟩; rw [HG.out]; exact ⟨rfl, hI.1.drew, hI.2.1.drew, hI.2.2.drew⟩))).mono ?_
  rintro e w3 ⟨rfl, hb3, _⟩
  go_wp2_with fail
  refine (nought_walk _ _).mono ?_
  rintro e w' ⟨rfl, rfl⟩
  by_cases h : orTo g n = 0
  · rw [if_pos h]
    have HO := Lib.hid (HALL.out.1 h)
    have HB := Lib.hid hb3
    clear h hb3
    go_wp2_with fail
    go_ret
    exact ⟨1, rfl, ⟨fun _ => HO.out, fun _ => rfl⟩, .inr rfl, HB.out⟩
  · rw [if_neg h]
    have HO := Lib.hid (show ¬ a = s from fun hh => h (HALL.out.2 hh))
    have HB := Lib.hid hb3
    clear h hb3
    go_wp2_with fail
    go_ret
    exact ⟨0, rfl, ⟨fun hh => (by cases hh), fun hh => absurd hh HO.out⟩, .inl rfl, HB.out⟩
theorem equal_walk (a s : ByteArray) (w : World) (hs : a.size ≤ 1048576) (hl : a.size = s.size) :
    Calls Tryz.prog 190 #[.string a, .string s] w fun e w' => e = .returned (.bool (decide (a = s))) ∧ Below w.heap.size w w' := by
  go_enter Tryz.func190, Tryz.ntmps190
  go_wp2_with fail
  refine (bit_walk a s _ hs hl).mono ?_
  rintro e w1 ⟨q, rfl, hq, h01, hb⟩
  by_cases h : a = s
  · obtain rfl : q = 1 := hq.2 h
    have HD := Lib.hid (decide_eq_true h)
    go_wp2_with fail
    go_ret
    exact ⟨by rw [HD.out]; rfl, hb⟩
  · obtain rfl : q = 0 := by
      rcases h01 with h1 | h1
      · exact h1
      · exact absurd (hq.1 h1) h
    have HD := Lib.hid (decide_eq_false h)
    clear h
    go_wp2_with fail
    go_ret
    exact ⟨by rw [HD.out]; rfl, hb⟩
end Go.Proofs.YtppdboadjefieaaGreat
