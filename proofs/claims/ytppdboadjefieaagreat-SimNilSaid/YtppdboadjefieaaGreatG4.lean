/- Walks of the documents' functions on numbers (chapter 01): Put, Get, Text. Walks of the documents' functions on numbers (chapters 01, 02): Get, turn. Walks of the documents' functions on SHA-256 (chapter 02): Begin, Rounds, Text, Pad. Walk of the documents' step (chapter 02): what a block does to the state. Walks of the documents' Pad and Sum (chapter 02). Walks of the documents' HMAC (chapter 03). -/
import Derived.Test.YtppdboadjefieaaGreatG3
import Derived.Test.YtppdboadjefieaaGreatG1
namespace Go.Proofs.YtppdboadjefieaaGreat
set_option linter.unusedSimpArgs false
set_option linter.unusedVariables false
open Go Go.RowKit
set_option linter.unusedVariables false

/-- Less than 2^63: hidden, that no unifier reckons with it. -/
structure I64 (n : Int) : Prop where
  lt : n < 9223372036854775808

set_option maxRecDepth 100000 in
set_option maxHeartbeats 1000000 in
theorem rput_walk (n wd : Int) (w : World) (hn : n < 9223372036854775808) :
    Calls Tryz.prog 105 #[.int .i64 n, .int .i64 wd] w fun e w' => Ends (0 ≤ n ∧ 1 ≤ wd ∧ wd ≤ 8 ∧ n.toNat < 256 ^ wd.toNat) (beBytes wd.toNat n.toNat) 2 e ∧ Below w.heap.size w w' := by
  by_cases c1 : wd < 1
  · go_enter Tryz.func105, Tryz.ntmps105
    go_wp2_with fail
    go_ret2
    exact ⟨.inr ⟨by omega, rfl⟩, Below.refl _ _⟩
  by_cases c2 : 8 < wd
  · have d1 : 1 ≤ wd := by omega
    go_enter Tryz.func105, Tryz.ntmps105
    go_wp2_with fail
    go_ret2
    exact ⟨.inr ⟨by omega, rfl⟩, Below.refl _ _⟩
  by_cases c3 : n < 0
  · have d1 : 1 ≤ wd := by omega
    have d2 : wd ≤ 8 := by omega
    go_enter Tryz.func105, Tryz.ntmps105
    go_wp2_with fail
    go_ret2
    exact ⟨.inr ⟨by omega, rfl⟩, Below.refl _ _⟩
  obtain ⟨m, rfl⟩ : ∃ m : Nat, n = (m : Int) := ⟨n.toNat, by omega⟩
  obtain ⟨d, rfl⟩ : ∃ d : Nat, wd = (d : Int) := ⟨wd.toNat, by omega⟩
  have d1 : (1 : Int) ≤ d := by omega
  have d2 : (d : Int) ≤ 8 := by omega
  have d3 : (0 : Int) ≤ m := by omega
  have HN : I64 (m : Int) := ⟨hn⟩; clear hn
  clear c1 c2 c3
  go_enter Tryz.func105, Tryz.ntmps105
  go_wp2_with fail
  go_loopw [0, 6, 7] (fun a o i wr => ∃ (k : Nat) (s : ByteArray), k ≤ d ∧ i = .int .i64 k ∧ a = .int .i64 ((m / 256 ^ k : Nat) : Int) ∧ o = .string s ∧ Txt s (beBytes k m) ∧ Below w.heap.size w wr) (fun a o i _ => d - (intOf i).toNat)
  case atStart => exact ⟨0, ⟨#[]⟩, by omega, rfl, by simp, rfl, Txt.mk [], Below.refl _ _⟩
  case round =>
    obtain ⟨k, s, hk, rfl, rfl, rfl, ts, hbel⟩ := hrel
    obtain ⟨x, Hx⟩ : ∃ x, Hid (x = m / 256 ^ k) := ⟨_, rfl⟩
    rw [← Hx.out]
    have x0 : (0 : Int) ≤ x := by omega
    have x1 : (x : Int) < 9223372036854775808 := by
      have h1 := Nat.div_le_self m (256 ^ k)
      have h2 := HN.lt
      have h3 := Hx.out
      rw [← h3] at h1
      clear h3
      omega
    have ss : s.size ≤ 8 := by rw [ts.size, beBytes_length]; omega
    by_cases hlt : k < d
    · have hlt' : (k : Int) < d := by omega
      obtain ⟨c, Hc⟩ : ∃ c, Hid (c = UInt8.ofNat (x % 256)) := ⟨_, rfl⟩
      have ec : ((x : Int) % 256) = ((c.toNat : Nat) : Int) := by rw [Hc.out]; simp
      have EC := Lib.hid ec; clear ec
      obtain ⟨q, hq, tq⟩ : ∃ q, str [c] = Value.string q ∧ Txt q [c] := ⟨_, rfl, Txt.mk _⟩
      have sq : q.size ≤ 1 := by rw [tq.size]; simp
      have HQ := Lib.hid hq; clear hq
      go_wp2_with (first
        | ((with_reducible refine wpList_slice_new 121 5 1 ?parts [.int .u8 ((x : Int) % 256)] (.int .u8 0) 1 1 (some 26) Tryz.underlying121 infoByte (by omega) (by omega) ?hgd ?ho ?hd ?hf ?_); (case hgd => rfl); (case ho => rfl); (case hd => rfl); (case hf => kernel_rfl); (intro g w1 l1 B1 e1 z1); (have HB1 : Hid (Blk w1 g (bytesV [c]) 5) := B1.ext (by rw [EC.out]; rfl)); (clear B1))
        | ((with_reducible refine wpList_string_bytes 121 9 5 (.tmp 26) [c] g 0 1 1 (some 27) Tryz.underlying121 Tryz.underlying5 Tryz.underlying9 HB1.out.range (List.length_singleton (a := c)).symm ?hgd ?ho ?hd ?hx ?_); (case hgd => rfl); (case ho => rfl); (case hd => rfl); (case hx => rfl); (rw [HQ.out])))
      go_roundw
      case rel =>
        have y := hbel.size
        refine ⟨k + 1, _, by omega, by go_num, ?_, rfl, ?_, hbel.trans (e1.mono (by omega))⟩
        · rw [show m / 256 ^ (k + 1) = x / 256 by rw [Hx.out, Nat.pow_succ, Nat.div_div_eq_div_mul], Int.natCast_ediv]; rfl
        · refine (tq.append ts).cast ?_
          rw [beBytes_front, Hc.out, Hx.out]; rfl
      case measure => simp [intOf]; omega
    · obtain rfl : k = d := by omega
      by_cases hx : 0 < x
      · have hx' : (0 : Int) < x := by omega
        go_wp2_with fail
        go_ret2
        refine ⟨.inr ⟨?_, rfl⟩, hbel⟩
        rintro ⟨_, _, _, h⟩
        have : x = 0 := by rw [Hx.out]; exact Nat.div_eq_of_lt (by simpa using h)
        omega
      · have hx' : (x : Int) ≤ 0 := by omega
        have hx0 : x = 0 := by omega
        go_wp2_with fail
        go_ret2
        refine ⟨.inl ⟨⟨by omega, by omega, by omega, ?_⟩, s, rfl, ts.cast (by simp)⟩, hbel⟩
        rw [Hx.out] at hx0
        have := (Nat.div_eq_zero_iff (a := m) (b := 256 ^ k)).1 hx0
        rcases this with h | h
        · exact absurd h (Nat.ne_of_gt (Nat.pow_pos (by decide)))
        · simpa using h
end Go.Proofs.YtppdboadjefieaaGreat
namespace Go.Proofs.YtppdboadjefieaaGreat
set_option linter.unusedSimpArgs false
set_option linter.unusedVariables false
open Go Go.RowKit
set_option linter.unusedVariables false

/-- The number that bytes are. -/
def beNum (l : List UInt8) : Nat := l.foldl (fun n b => 256 * n + b.toNat) 0
theorem beNum_snoc (l : List UInt8) (b : UInt8) : beNum (l ++ [b]) = 256 * beNum l + b.toNat := by simp [beNum]
theorem beNum_take (l : List UInt8) (k : Nat) (h : k < l.length) : beNum (l.take (k + 1)) = 256 * beNum (l.take k) + l[k].toNat := by
  rw [List.take_succ_eq_append_getElem h, beNum_snoc]
theorem beNum_mono (l : List UInt8) (k : Nat) : beNum (l.take k) ≤ beNum l := by
  by_cases h : k < l.length
  · have : ∀ m, beNum (l.take k) ≤ beNum (l.take (k + m)) := by
      intro m
      induction m with
      | zero => exact Nat.le_refl _
      | succ m ih =>
        by_cases hm : k + m < l.length
        · rw [← Nat.add_assoc, beNum_take _ _ hm]; omega
        · rw [← Nat.add_assoc, List.take_of_length_le (i := k + m + 1) (by omega)]; rw [List.take_of_length_le (i := k + m) (by omega)] at ih; exact ih
    have := this (l.length - k)
    rwa [List.take_of_length_le (i := k + (l.length - k)) (by omega)] at this
  · rw [List.take_of_length_le (by omega)]; exact Nat.le_refl _
theorem beNum_lt (l : List UInt8) : beNum l < 256 ^ l.length := by
  have : ∀ k, k ≤ l.length → beNum (l.take k) < 256 ^ k := by
    intro k hk
    induction k with
    | zero => simp [beNum]
    | succ k ih =>
      have h1 := ih (by omega)
      have h2 := (l[k]'(by omega)).toNat_lt
      rw [beNum_take _ _ (by omega), Nat.pow_succ]
      omega
  have := this l.length (Nat.le_refl _)
  rwa [List.take_length] at this
theorem beNum_four (l : List UInt8) (h : l.length = 4) : beNum l = be32 l 0 := by
  match l, h with
  | [a, b, c, d], _ => simp [beNum, be32]; omega

/-- How Get ends. -/
def GetEnd (l : List UInt8) (e : Ending) : Prop :=
  ((1 ≤ l.length ∧ l.length ≤ 8 ∧ beNum l < 9223372036854775808) ∧ e = .returned (.tuple #[.int .i64 ((beNum l : Nat) : Int), .int .i64 0])) ∨
  (¬ (1 ≤ l.length ∧ l.length ≤ 8 ∧ beNum l < 9223372036854775808) ∧ e = .returned (.tuple #[.int .i64 0, .int .i64 3]))

/-- A number that is told to be what it is, and hidden. -/
theorem rget4_walk (s : ByteArray) (w : World) (h : s.size = 4) :
    Calls Tryz.prog 297 #[.string s] w fun e w' => e = .returned (.tuple #[.int .i64 ((be32 s.data.toList 0 : Nat) : Int), .int .i64 0]) ∧ w = w' := by
  have hl : s.data.toList.length = 4 := h
  have HL := Lib.hid hl; clear hl
  have h1 : (s.size : Int) = 4 := by omega
  have h2 : s.size = 4 := h
  clear h
  go_enter Tryz.func297, Tryz.ntmps297
  go_wp2_with fail
  go_loopw [4, 5] (fun a i wr => ∃ k : Nat, k ≤ 4 ∧ i = .int .i64 k ∧ a = .int .i64 ((beNum (s.data.toList.take k) : Nat) : Int) ∧ w = wr) (fun a i _ => 4 - (intOf i).toNat)
  case atStart => exact ⟨0, by omega, rfl, rfl, rfl⟩
  case round =>
    obtain ⟨k, hk, rfl, rfl, rfl⟩ := hrel
    obtain ⟨x, Hx⟩ : ∃ x, Hid (x = beNum (s.data.toList.take k)) := ⟨_, rfl⟩
    rw [← Hx.out]
    by_cases hlt : k < 4
    · have hlt' : (k : Int) < 4 := by omega
      have hk' : k < s.size := by omega
      have x0 : x < 4294967296 := by
        have h3 := beNum_lt (s.data.toList.take k)
        have h4 : (s.data.toList.take k).length = k := by rw [List.length_take, HL.out]; omega
        rw [h4, ← Hx.out] at h3
        exact Nat.lt_of_lt_of_le h3 (Nat.pow_le_pow_right (n := 256) (by omega) (show k ≤ 4 by omega))
      have x1 : (x : Int) < 4294967296 := by omega
      have hb := s[k].toNat_lt
      go_wp2_with fail
      go_roundw
      case rel =>
        refine ⟨k + 1, by omega, by go_num, ?_, by trivial⟩
        rw [beNum_take _ _ (by rw [HL.out]; exact hlt), ← Hx.out]
        simp
        rfl
      case measure => simp [intOf]; omega
    · obtain rfl : k = 4 := by omega
      have e4 : Hid (x = be32 s.data.toList 0) := by show x = _; rw [Hx.out, List.take_of_length_le (by rw [HL.out]; omega), beNum_four _ HL.out]
      go_wp2_with fail
      go_ret2
      exact ⟨by rw [e4.out]; rfl, rfl⟩

theorem i64_or_nat (a b : Nat) (ha : a < 9223372036854775808) (hb : b < 9223372036854775808) : bits .or .i64 (a : Int) (b : Int) = ((a ||| b : Nat) : Int) := by
  have hx : a ||| b < 2 ^ 63 := Nat.or_lt_two_pow (by omega) (by omega)
  show IntKind.i64.wrap ((BitVec.ofInt 64 (a : Int) ||| BitVec.ofInt 64 (b : Int)).toNat : Int) = _
  rw [BitVec.toNat_or, ofInt_u64 a (by omega), ofInt_u64 b (by omega), IntKind.wrap_i64]
  omega
theorem i64_xor_nat (a b : Nat) (ha : a < 9223372036854775808) (hb : b < 9223372036854775808) : bits .xor .i64 (a : Int) (b : Int) = ((a ^^^ b : Nat) : Int) := by
  have hx : a ^^^ b < 2 ^ 63 := Nat.xor_lt_two_pow (by omega) (by omega)
  show IntKind.i64.wrap ((BitVec.ofInt 64 (a : Int) ^^^ BitVec.ofInt 64 (b : Int)).toNat : Int) = _
  rw [BitVec.toNat_xor, ofInt_u64 a (by omega), ofInt_u64 b (by omega), IntKind.wrap_i64]
  omega
theorem i64_and_nat (a b : Nat) (ha : a < 9223372036854775808) (hb : b < 9223372036854775808) : bits .and .i64 (a : Int) (b : Int) = ((a &&& b : Nat) : Int) := by
  have hx : a &&& b < 2 ^ 63 := Nat.and_lt_two_pow _ (by omega)
  show IntKind.i64.wrap ((BitVec.ofInt 64 (a : Int) &&& BitVec.ofInt 64 (b : Int)).toNat : Int) = _
  rw [BitVec.toNat_and, ofInt_u64 a (by omega), ofInt_u64 b (by omega), IntKind.wrap_i64]
  omega

theorem turn_num (x k : Nat) (hx : x < 4294967296) (h0 : 0 < k) (h1 : k < 32) :
    (bits BinOp.or IntKind.i64 ((x : Int) / 2 ^ k) (wrap64 ((x : Int) * 2 ^ (32 - k)))).tmod 4294967296 = ((rotr x k : Nat) : Int) := by
  have e1 : (x : Int) * 2 ^ (32 - k) = ((x * 2 ^ (32 - k) : Nat) : Int) := by simp
  have e2 : (x : Int) / 2 ^ k = ((x / 2 ^ k : Nat) : Int) := by simp
  have l0 : (2 : Nat) ^ (32 - k) ≤ 2 ^ 31 := Nat.pow_le_pow_right (by omega) (by omega)
  have l1 : x * 2 ^ (32 - k) < 9223372036854775808 := by
    have : x * 2 ^ (32 - k) ≤ x * 2 ^ 31 := Nat.mul_le_mul_left _ l0
    omega
  have l2 : x / 2 ^ k < 9223372036854775808 := Nat.lt_of_le_of_lt (Nat.div_le_self _ _) (by omega)
  have e3 : wrap64 ((x * 2 ^ (32 - k) : Nat) : Int) = ((x * 2 ^ (32 - k) : Nat) : Int) := IntWalk.wrap64_in _ (by omega)
  rw [e1, e2, e3, i64_or_nat _ _ l2 l1, Int.tmod_eq_emod_of_nonneg (Int.natCast_nonneg _)]
  unfold rotr
  rw [Nat.shiftRight_eq_div_pow, Nat.shiftLeft_eq]
  rfl

theorem turn_walk (x : Nat) (k : Int) (w : World) (hx : x < 4294967296) (h0 : 0 < k) (h1 : k < 32) :
    Calls Tryz.prog 298 #[.int .i64 x, .int .i64 k] w fun e w' => e = .returned (.int .i64 ((rotr x k.toNat : Nat) : Int)) ∧ ∃ n, w' = w.drewN n := by
  have hf : Hid _ := turn_num x k.toNat hx (by omega) (by omega)
  have d0 : (0 : Int) ≤ k := by omega
  have d1 : (0 : Int) ≤ 32 - k := by omega
  have d2 : (x : Int) < 4294967296 := by omega
  go_enter Tryz.func298, Tryz.ntmps298
  go_wp2
  go_quiet (fail)
  go_wp2
  go_ret
  refine ⟨?_, _, rfl⟩
  show Ending.returned (Value.int IntKind.i64 _) = _
  rw [← hf.out, show (32 - k).toNat = 32 - k.toNat by omega]
end Go.Proofs.YtppdboadjefieaaGreat
namespace Go.Proofs.YtppdboadjefieaaGreat
set_option linter.unusedSimpArgs false
set_option linter.unusedVariables false
open Go Go.RowKit
set_option linter.unusedVariables false

def nums64 (l : List Nat) : List Value := l.map (fun n => .int .i64 ((n : Nat) : Int))
theorem nums64_length (l : List Nat) : (nums64 l).length = l.length := by simp [nums64]
theorem nums64_one (l : List Nat) : ∀ v ∈ nums64 l, v.oneCell' = true := by
  intro v hv
  obtain ⟨_, _, rfl⟩ := List.mem_map.1 hv
  rfl
theorem nums64_at (l : List Nat) (i : Nat) (hi : i < l.length) : (nums64 l)[i]? = some (.int .i64 ((l.getD i 0 : Nat) : Int)) := by
  simp [nums64, hi]

/-- Eight numbers, as the documents hold them. -/
def S8.rcells (s : S8) : List Value := [.int .i64 s.a, .int .i64 s.b, .int .i64 s.c, .int .i64 s.d, .int .i64 s.e, .int .i64 s.f, .int .i64 s.g, .int .i64 s.h]
def S8.rval (s : S8) : Value := .agg s.rcells.toArray
theorem S8.rcells_l (s : S8) : s.rcells = nums64 s.l := rfl
theorem S8.rcells_one (s : S8) : ∀ v ∈ s.rcells, v.oneCell' = true := nums64_one s.l

def zeros64 (n : Nat) : List Value := List.replicate n (.int .i64 0)
theorem rzero64 (w : World) : Sem.run Tryz.prog (zeroValue 276) w = .ok (.agg (zeros64 64).toArray) w := by kernel_rfl
theorem rzero8 (w : World) : Sem.run Tryz.prog (zeroValue 274) w = .ok (.agg S8.zero.rcells.toArray) w := by kernel_rfl
theorem rsize64 : (Tryz.prog.info? 276).map (·.size) = some 64 := by kernel_rfl
theorem rsize8 (s : S8) : (Tryz.prog.info? 274).map (·.size) = some s.rcells.length := by kernel_rfl

theorem rbegin_walk (w : World) :
    Calls Tryz.prog 196 #[] w fun e w' => e = .returned S8.first.rval ∧ Below w.heap.size w w' := by
  go_enter Tryz.func196, Tryz.ntmps196
  go_wp2
  exact bodyPost_ret (v := S8.first.rval) (by simp [results, Tryz.results196, go_sem]; rfl) rfl ⟨rfl, ((Below.refl _ _).alloc (Nat.le_refl _) _)⟩

set_option maxRecDepth 100000 in
set_option maxHeartbeats 400000 in
theorem rrounds_walk (w : World) :
    Calls Tryz.prog 197 #[] w fun e w' => e = .returned (.agg (nums64 roundK).toArray) ∧ Below w.heap.size w w' := by
  have hi : Hid ((Tryz.prog.info? 276).map (·.size) = some (nums64 roundK).length) := by show _ = _; kernel_rfl
  have hz : Hid (Blk (w.alloc (.cells (List.replicate 64 (Value.int .i64 0)).toArray 276)) w.heap.size (List.replicate 64 (.int .i64 0)) 276) := Blk.new _ _ _
  have hb : Hid (Below w.heap.size w (w.alloc (.cells (List.replicate 64 (Value.int .i64 0)).toArray 276))) := (Below.refl _ _).alloc (Nat.le_refl _) _
  have hl : Hid ((nums64 roundK).length = (List.replicate 64 (Value.int .i64 0)).length) := by show _ = _; rfl
  go_enter Tryz.func197, Tryz.ntmps197
  go_wp2_with (first
    | ((with_reducible refine wpList_build_eq 276 ?parts (nums64 roundK) ?hgd ?ho ?hf ?_); (case hgd => rfl); (case ho => rfl); (case hf => kernel_rfl))
    | ((with_reducible refine wpList_store_blk 276 (.tmp 0) (.tmp 1) w.heap.size (List.replicate 64 (Value.int .i64 0)) (nums64 roundK) 276 ?hz ?hl hi.out (nums64_one _) ?hgd ?ho ?hx ?hy ?_); (case hgd => rfl); (case ho => rfl); (case hx => rfl); (case hz => exact hz.out); (case hl => exact hl.out); (case hy => rfl))
    | ((with_reducible refine bodyPost_ret (v := .agg (nums64 roundK).toArray) ?hr ?hd ?hR)
       (case hd => rfl)
       (case hR => exact ⟨rfl, Below.setCells (Nat.le_refl _) _ _ hb.out⟩)
       (case hr => exact results_cell_row rfl _ _ w.heap.size _ _ _ _ rfl (hz.out.setAll (nums64 roundK) hl.out) Tryz.underlying276 rfl (by rw [List.size_toArray]; exact hi.out))))

theorem S8.l_lt {s : S8} (h : s.ok) (k : Nat) : s.l.getD k 0 < 4294967296 := by
  obtain ⟨h1, h2, h3, h4, h5, h6, h7, h8⟩ := h
  match k with
  | 0 => exact h1
  | 1 => exact h2
  | 2 => exact h3
  | 3 => exact h4
  | 4 => exact h5
  | 5 => exact h6
  | 6 => exact h7
  | 7 => exact h8
  | k + 8 => simp [S8.l]

set_option maxRecDepth 100000 in
set_option maxHeartbeats 1000000 in
theorem rtext_walk (s : S8) (hs : s.ok) (w : World) :
    Calls Tryz.prog 199 #[s.rval] w fun e w' => ∃ r, e = .returned (.string r) ∧ Txt r s.text ∧ Below w.heap.size w w' := by
  go_enter Tryz.func199, Tryz.ntmps199
  go_wp2_with ((with_reducible refine wpList_box_new 274 (.tmp 0) s.rcells (some 1) ?hgd ?ho ?hd ?hx ?_); (case hgd => rfl); (case ho => rfl); (case hd => rfl); (case hx => rfl); (intro b w1 l1 B1 e1 z1))
  have hbel0 := e1.mono l1
  go_loopw [3, 4] (fun o i wr => ∃ (k : Nat) (r : ByteArray), k ≤ 8 ∧ i = .int .i64 k ∧ o = .string r ∧ Txt r (textTo s.l k) ∧ Blk wr b s.rcells 274 ∧ Below w.heap.size w wr) (fun o i _ => 8 - (intOf i).toNat)
  case atStart => exact ⟨0, ⟨#[]⟩, by omega, rfl, rfl, Txt.mk [], B1, hbel0⟩
  case round =>
    clear B1 hbel0 e1 z1
    obtain ⟨k, r, hk, rfl, rfl, tr, hB, hbel⟩ := hrel
    have hr : r.size ≤ 32 := by rw [tr.size, textTo_length _ _ (by show k ≤ 8; omega)]; omega
    by_cases hlt : k < 8
    · have hlt' : (k : Int) < 8 := by omega
      obtain ⟨x, Hx⟩ : ∃ a, Hid (a = s.l.getD k 0) := ⟨_, rfl⟩
      have hx : x < 4294967296 := by rw [Hx.out]; exact S8.l_lt hs k
      have hc : wr.cell? ⟨b, k, none⟩ = some (.int .i64 x) := by rw [Hx.out]; exact hB.cell (by rw [S8.rcells_l]; exact nums64_at _ _ (by exact hlt))
      have HB := Lib.hid hB; clear hB
      go_wp2_with fail
      refine (rput_walk x 4 _ (by omega)).mono ?_
      rintro e w2 ⟨he, hb2⟩
      obtain ⟨q, rfl, tq⟩ := he.yes ⟨by omega, by omega, by omega, by simpa using hx⟩
      clear he
      have hq : q.size ≤ 4 := by rw [tq.size, beBytes_length]; simp
      go_wp2_with fail
      go_roundw
      case rel =>
        have y := hbel.size
        have z := HB.out.lt
        refine ⟨k + 1, _, by omega, by go_num, rfl, ?_, HB.out.below hb2 z, hbel.trans (hb2.mono y)⟩
        refine (tr.append tq).cast ?_
        rw [textTo_succ _ _ hlt, ← Hx.out]; rfl
      case measure => simp [intOf]; omega
    · obtain rfl : k = 8 := by omega
      have HB := Lib.hid hB; clear hB
      go_wp2_with fail
      go_ret
      exact ⟨r, rfl, tr.cast (textTo_all s), hbel⟩
end Go.Proofs.YtppdboadjefieaaGreat
namespace Go.Proofs.YtppdboadjefieaaGreat
set_option linter.unusedSimpArgs false
set_option linter.unusedVariables false
open Go Go.RowKit
set_option linter.unusedVariables false

def rwcells (blk : List UInt8) (k : Nat) : List Value := nums64 (wordsTo blk k ++ List.replicate (64 - k) 0)
theorem rwcells_length (blk : List UInt8) (k : Nat) (hk : k ≤ 64) : (rwcells blk k).length = 64 := by simp [rwcells, nums64, wordsTo_length]; omega
theorem rwcells_at (blk : List UInt8) (k i : Nat) (hi : i < k) : (rwcells blk k)[i]? = some (.int .i64 (((wordsTo blk k).getD i 0 : Nat) : Int)) := by
  have hl := wordsTo_length blk k
  simp [rwcells, nums64, List.getElem?_append, hl, hi]
theorem rwcells_zat (blk : List UInt8) (k : Nat) (hk : k < 64) : (rwcells blk k)[k]? = some (.int .i64 0) := by
  have hl := wordsTo_length blk k
  unfold rwcells nums64
  rw [show List.replicate (64 - k) 0 = 0 :: List.replicate (64 - (k + 1)) 0 by rw [← List.replicate_succ]; congr 1; omega]
  simp [hl]
theorem rwcells_set (blk : List UInt8) (k : Nat) (hk : k < 64) : (rwcells blk k).set k (.int .i64 ((nextWord blk (wordsTo blk k) : Nat) : Int)) = rwcells blk (k + 1) := by
  have hl := wordsTo_length blk k
  unfold rwcells nums64
  rw [show List.replicate (64 - k) 0 = 0 :: List.replicate (64 - (k + 1)) 0 by rw [← List.replicate_succ]; congr 1; omega]
  simp only [wordsTo, List.map_append, List.map_cons, List.map_nil, List.append_assoc]
  rw [List.set_append_right _ _ (by simp [hl])]
  simp [hl]
theorem rwcells_zero (blk : List UInt8) : rwcells blk 0 = zeros64 64 := by simp [rwcells, nums64, wordsTo, zeros64]
theorem rwcells_end (blk : List UInt8) : rwcells blk 64 = nums64 (wordsTo blk 64) := by simp [rwcells]

theorem be32_four (l : List UInt8) (k : Nat) : be32 ((l.take (4 * k + 4)).drop (4 * k)) 0 = be32 l k := by
  simp [be32, List.getElem?_drop]

theorem rsg0_num (x : Nat) (hx : x < 4294967296) : bits BinOp.xor IntKind.i64 (bits BinOp.xor IntKind.i64 ((rotr x 7 : Nat) : Int) ((rotr x 18 : Nat) : Int)) (wrap64 ((x : Int) / 8)) = ((sg0 x : Nat) : Int) := by
  have h1 := rotr_lt x 7
  have h2 := rotr_lt x 18
  have h3 := xor_lt32 h1 h2
  have e : wrap64 ((x : Int) / 8) = ((x / 8 : Nat) : Int) := by rw [IntWalk.wrap64_in _ (by omega)]; simp
  rw [e, i64_xor_nat _ _ (by omega) (by omega), i64_xor_nat _ _ (by omega) (by omega)]; rfl
theorem rsg1_num (x : Nat) (hx : x < 4294967296) : bits BinOp.xor IntKind.i64 (bits BinOp.xor IntKind.i64 ((rotr x 17 : Nat) : Int) ((rotr x 19 : Nat) : Int)) (wrap64 ((x : Int) / 1024)) = ((sg1 x : Nat) : Int) := by
  have h1 := rotr_lt x 17
  have h2 := rotr_lt x 19
  have h3 := xor_lt32 h1 h2
  have e : wrap64 ((x : Int) / 1024) = ((x / 1024 : Nat) : Int) := by rw [IntWalk.wrap64_in _ (by omega)]; simp
  rw [e, i64_xor_nat _ _ (by omega) (by omega), i64_xor_nat _ _ (by omega) (by omega)]; rfl

theorem rword_num (a b c d : Nat) (ha : a < 4294967296) (hb : b < 4294967296) (hc : c < 4294967296) (hd : d < 4294967296) :
    (wrap64 (wrap64 (wrap64 ((a : Int) + (b : Int)) + (c : Int)) + (d : Int))).tmod 4294967296 = (((a + b + c + d) % 4294967296 : Nat) : Int) := by
  rw [IntWalk.wrap64_in ((a : Int) + b) (by omega), IntWalk.wrap64_in ((a : Int) + b + c) (by omega), IntWalk.wrap64_in ((a : Int) + b + c + d) (by omega), Int.tmod_eq_emod_of_nonneg (by omega)]
  omega

theorem bg1_num (e : Nat) : bits BinOp.xor IntKind.i64 (bits BinOp.xor IntKind.i64 ((rotr e 6 : Nat) : Int) ((rotr e 11 : Nat) : Int)) ((rotr e 25 : Nat) : Int) = ((bg1 e : Nat) : Int) := by
  have h1 := rotr_lt e 6
  have h2 := rotr_lt e 11
  have h3 := rotr_lt e 25
  have h4 := xor_lt32 h1 h2
  rw [i64_xor_nat _ _ (by omega) (by omega), i64_xor_nat _ _ (by omega) (by omega)]; rfl
theorem bg0_num (e : Nat) : bits BinOp.xor IntKind.i64 (bits BinOp.xor IntKind.i64 ((rotr e 2 : Nat) : Int) ((rotr e 13 : Nat) : Int)) ((rotr e 22 : Nat) : Int) = ((bg0 e : Nat) : Int) := by
  have h1 := rotr_lt e 2
  have h2 := rotr_lt e 13
  have h3 := rotr_lt e 22
  have h4 := xor_lt32 h1 h2
  rw [i64_xor_nat _ _ (by omega) (by omega), i64_xor_nat _ _ (by omega) (by omega)]; rfl
theorem chs_num (e f g : Nat) (he : e < 4294967296) (hf : f < 4294967296) (hg : g < 4294967296) :
    bits BinOp.or IntKind.i64 (bits BinOp.and IntKind.i64 (e : Int) (f : Int)) (bits BinOp.and IntKind.i64 (wrap64 (4294967295 - (e : Int))) (g : Int)) = ((chs e f g : Nat) : Int) := by
  have e1 : wrap64 (4294967295 - (e : Int)) = ((4294967295 - e : Nat) : Int) := by rw [IntWalk.wrap64_in _ (by omega)]; omega
  have h1 := and_lt32 (b := f) he
  have h2 : (4294967295 - e) &&& g < 4294967296 := and_lt32 (by omega)
  rw [e1, i64_and_nat _ _ (by omega) (by omega), i64_and_nat _ _ (by omega) (by omega), i64_or_nat _ _ (by omega) (by omega)]; rfl
theorem rmaj_num (a b c : Nat) (ha : a < 4294967296) (hb : b < 4294967296) (hc : c < 4294967296) :
    bits BinOp.or IntKind.i64 (bits BinOp.or IntKind.i64 (bits BinOp.and IntKind.i64 (a : Int) (b : Int)) (bits BinOp.and IntKind.i64 (a : Int) (c : Int))) (bits BinOp.and IntKind.i64 (b : Int) (c : Int)) = ((maj a b c : Nat) : Int) := by
  have h1 := and_lt32 (b := b) ha
  have h2 := and_lt32 (b := c) ha
  have h3 := and_lt32 (b := c) hb
  have h4 := or_lt32 h1 h2
  rw [i64_and_nat _ _ (by omega) (by omega), i64_and_nat _ _ (by omega) (by omega), i64_and_nat _ _ (by omega) (by omega), i64_or_nat _ _ (by omega) (by omega), i64_or_nat _ _ (by omega) (by omega)]; rfl
theorem rt_num (a b c d e f g h k w : Nat) (he : e < 4294967296) (hf : f < 4294967296) (hg : g < 4294967296) (hh : h < 4294967296) (hk : k < 4294967296) (hw : w < 4294967296) :
    wrap64 (wrap64 (wrap64 (wrap64 ((h : Int) + bits BinOp.xor IntKind.i64 (bits BinOp.xor IntKind.i64 ((rotr e 6 : Nat) : Int) ((rotr e 11 : Nat) : Int)) ((rotr e 25 : Nat) : Int)) +
      bits BinOp.or IntKind.i64 (bits BinOp.and IntKind.i64 (e : Int) (f : Int)) (bits BinOp.and IntKind.i64 (wrap64 (4294967295 - (e : Int))) (g : Int))) + (k : Int)) + (w : Int)) = ((tOf ⟨a, b, c, d, e, f, g, h⟩ k w : Nat) : Int) := by
  have h1 := bg1_lt e
  have h2 := chs_lt (f := f) (g := g) he
  rw [bg1_num, chs_num _ _ _ he hf hg, IntWalk.wrap64_in ((h : Int) + _) (by omega), IntWalk.wrap64_in ((h : Int) + _ + _) (by omega), IntWalk.wrap64_in ((h : Int) + _ + _ + _) (by omega), IntWalk.wrap64_in _ (by omega)]
  simp [tOf]
theorem ru_num (a b c d e f g h : Nat) (ha : a < 4294967296) (hb : b < 4294967296) (hc : c < 4294967296) :
    wrap64 (bits BinOp.xor IntKind.i64 (bits BinOp.xor IntKind.i64 ((rotr a 2 : Nat) : Int) ((rotr a 13 : Nat) : Int)) ((rotr a 22 : Nat) : Int) +
      bits BinOp.or IntKind.i64 (bits BinOp.or IntKind.i64 (bits BinOp.and IntKind.i64 (a : Int) (b : Int)) (bits BinOp.and IntKind.i64 (a : Int) (c : Int))) (bits BinOp.and IntKind.i64 (b : Int) (c : Int))) = ((uOf ⟨a, b, c, d, e, f, g, h⟩ : Nat) : Int) := by
  have h1 := bg0_lt a
  have h2 := maj_lt ha hb (c := c)
  rw [bg0_num, rmaj_num _ _ _ ha hb hc, IntWalk.wrap64_in _ (by omega)]
  simp [uOf]
theorem radd_num (t u : Nat) (ht : t < 1099511627776) (hu : u < 1099511627776) : (wrap64 ((t : Int) + (u : Int))).tmod 4294967296 = (((t + u) % 4294967296 : Nat) : Int) := by
  rw [IntWalk.wrap64_in _ (by omega), Int.tmod_eq_emod_of_nonneg (by omega)]; omega

theorem tOf_lt {s : S8} {k w : Nat} (he : s.e < 4294967296) (hh : s.h < 4294967296) (hk : k < 4294967296) (hw : w < 4294967296) : tOf s k w < 1099511627776 := by
  have h1 := bg1_lt s.e
  have h2 := chs_lt (f := s.f) (g := s.g) he
  unfold tOf; omega
theorem uOf_lt {s : S8} (ha : s.a < 4294967296) (hb : s.b < 4294967296) : uOf s < 1099511627776 := by
  have h1 := bg0_lt s.a
  have h2 := maj_lt ha hb (c := s.c)
  unfold uOf; omega
theorem rmix_all (y x : S8) : nums64 (mix y.l x.l 8) = (y.add x).rcells := by rfl
theorem rmix_set (y x : List Nat) (k : Nat) (hk : k < 8) : (nums64 (mix y x k)).set k (.int .i64 (((y.getD k 0 + x.getD k 0) % 4294967296 : Nat) : Int)) = nums64 (mix y x (k + 1)) := by
  apply List.ext_getElem?
  intro i
  by_cases hi : i < 8
  · rw [List.getElem?_set]
    by_cases e : k = i
    · subst e
      rw [if_pos rfl, if_pos (by simp [nums64_length, mix_length, hi]), nums64_at _ _ (by rw [mix_length]; exact hi), mix_at _ _ _ _ hi, if_pos (by omega)]
    · rw [if_neg e, nums64_at _ _ (by rw [mix_length]; exact hi), nums64_at _ _ (by rw [mix_length]; exact hi), mix_at _ _ _ _ hi, mix_at _ _ _ _ hi]
      by_cases h : i < k
      · rw [if_pos h, if_pos (by omega)]
      · rw [if_neg h, if_neg (by omega)]
  · rw [List.getElem?_eq_none (by simp [nums64_length, mix_length]; omega), List.getElem?_eq_none (by simp [nums64_length, mix_length]; omega)]

/-- What the loop of the sums keeps. -/
structure RInv3 (w0 : World) (s : S8) (b3 b6 b13 : Nat) (y : List Nat) (w : World) : Prop where
  x : Blk w b3 (nums64 s.l) 274
  out : Blk w b6 S8.zero.rcells 274
  y : Blk w b13 (nums64 y) 274
  bel : Below w0.heap.size w0 w
  lo : w0.heap.size ≤ b3 ∧ b3 < b6 ∧ b6 < b13

theorem roundK_lt (k : Nat) : roundK.getD k 0 < 4294967296 := by
  by_cases h : k < 64
  · have : ∀ i, i < 64 → roundK.getD i 0 < 4294967296 := by decide
    exact this k h
  · rw [List.getD_eq_getElem?_getD, List.getElem?_eq_none (by show 64 ≤ k; omega)]; decide

/-- A number of 32 bits: hidden, that no unifier reckons with it. -/
structure Lt32 (n : Nat) : Prop where
  lt : n < 4294967296

/-- What the loop of the words keeps. -/
structure RInv1 (w0 : World) (s : S8) (bl : List UInt8) (b3 b5 b6 b7 : Nat) (k : Nat) (w : World) : Prop where
  x : Blk w b3 s.rcells 274
  ks : Blk w b5 (nums64 roundK) 276
  out : Blk w b6 S8.zero.rcells 274
  ws : Blk w b7 (rwcells bl k) 276
  bel : Below w0.heap.size w0 w
  lo : w0.heap.size ≤ b3 ∧ b3 < b5 ∧ b5 < b6 ∧ b6 < b7
theorem RInv1.drewN {w0 : World} {s : S8} {bl : List UInt8} {b3 b5 b6 b7 k : Nat} {w : World} (h : RInv1 w0 s bl b3 b5 b6 b7 k w) (n : Nat) : RInv1 w0 s bl b3 b5 b6 b7 k (w.drewN n) :=
  ⟨h.x.drewN n, h.ks.drewN n, h.out.drewN n, h.ws.drewN n, Below.drewN h.bel n, h.lo⟩
theorem RInv1.drew {w0 : World} {s : S8} {bl : List UInt8} {b3 b5 b6 b7 k : Nat} {w : World} (h : RInv1 w0 s bl b3 b5 b6 b7 k w) : RInv1 w0 s bl b3 b5 b6 b7 k w.drew :=
  ⟨h.x.drew, h.ks.drew, h.out.drew, h.ws.drew, h.bel.drew, h.lo⟩
theorem RInv1.next {w0 : World} {s : S8} {bl : List UInt8} {b3 b5 b6 b7 k : Nat} {w : World} (h : RInv1 w0 s bl b3 b5 b6 b7 k w) (hk : k < 64) {x : Nat} (hx : x = nextWord bl (wordsTo bl k)) :
    RInv1 w0 s bl b3 b5 b6 b7 (k + 1) (w.setCell ⟨b7, k, none⟩ (.int .i64 ((x : Nat) : Int))) := by
  subst hx
  have hl := h.lo
  exact ⟨h.x.set_other (by show b3 ≠ b7; omega) _, h.ks.set_other (by show b5 ≠ b7; omega) _, h.out.set_other (by show b6 ≠ b7; omega) _, (h.ws.set k _).ext (rwcells_set _ _ hk), h.bel.setCell (by show w0.heap.size ≤ b7; omega) _, hl⟩

/-- What the loop of the rounds keeps. -/
structure RInv2 (w0 : World) (s : S8) (ws : List Nat) (b3 b5 b6 b7 b13 : Nat) (y : S8) (w : World) : Prop where
  x : Blk w b3 s.rcells 274
  ks : Blk w b5 (nums64 roundK) 276
  out : Blk w b6 S8.zero.rcells 274
  ws : Blk w b7 (nums64 ws) 276
  y : Blk w b13 y.rcells 274
  bel : Below w0.heap.size w0 w
  lo : w0.heap.size ≤ b3 ∧ b3 < b5 ∧ b5 < b6 ∧ b6 < b7 ∧ b7 < b13
theorem RInv2.drewN {w0 : World} {s : S8} {ws : List Nat} {b3 b5 b6 b7 b13 : Nat} {y : S8} {w : World} (h : RInv2 w0 s ws b3 b5 b6 b7 b13 y w) (n : Nat) : RInv2 w0 s ws b3 b5 b6 b7 b13 y (w.drewN n) :=
  ⟨h.x.drewN n, h.ks.drewN n, h.out.drewN n, h.ws.drewN n, h.y.drewN n, Below.drewN h.bel n, h.lo⟩

set_option maxRecDepth 100000 in
set_option maxHeartbeats 1000000 in
theorem rstep_walk (s : S8) (hs : s.ok) (blk : ByteArray) (w : World) (h : blk.size = 64) :
    Calls Tryz.prog 198 #[s.rval, .string blk, .agg (nums64 roundK).toArray] w fun e w' => e = .returned (stp s blk.data.toList).rval ∧ Below w.heap.size w w' := by
  have h0 : blk.size ≤ 64 := by omega
  have h1 : 64 ≤ blk.size := by omega
  clear h
  go_enter Tryz.func198, Tryz.ntmps198
  go_wp2_with (first
    | ((with_reducible refine wpList_box_new 274 (.tmp 0) s.rcells (some 3) ?hgd ?ho ?hd ?hx ?_); (case hgd => rfl); (case ho => rfl); (case hd => rfl); (case hx => rfl); (intro b3 w3 l3 B3 e3 z3))
    | ((with_reducible refine wpList_box_new 276 (.tmp 2) (nums64 roundK) (some 5) ?hgd ?ho ?hd ?hx ?_); (case hgd => rfl); (case ho => rfl); (case hd => rfl); (case hx => rfl); (intro b5 w5 l5 B5 e5 z5))
    | ((with_reducible refine wpList_alloc_new 274 S8.zero.rcells rzero8 (some 6) ?hgd ?ho ?hd ?_); (case hgd => rfl); (case ho => rfl); (case hd => rfl); (intro b6 w6 l6 B6 e6 z6))
    | ((with_reducible refine wpList_alloc_new 276 (zeros64 64) rzero64 (some 7) ?hgd ?ho ?hd ?_); (case hgd => rfl); (case ho => rfl); (case hd => rfl); (intro b7 w7 l7 B7 e7 z7)))
  have hI : RInv1 w s blk.data.toList b3 b5 b6 b7 0 w7 := by
    refine ⟨((B3.below e5 (by omega)).below e6 (by omega)).below e7 (by omega), (B5.below e6 (by omega)).below e7 (by omega), B6.below e7 (by omega), B7.ext (rwcells_zero _).symm, ?_, by omega⟩
    exact (((e3.mono l3).trans (e5.mono (by omega))).trans (e6.mono (by omega))).trans (e7.mono (by omega))
  clear B3 B5 B6 B7 e3 e5 e6 e7 z3 z5 z6 z7 l3 l5 l6 l7
  go_loopw [8] (fun i wr => ∃ k : Nat, k ≤ 64 ∧ i = .int .i64 k ∧ RInv1 w s blk.data.toList b3 b5 b6 b7 k wr) (fun i _ => 64 - (intOf i).toNat)
  case atStart => exact ⟨0, by omega, rfl, hI⟩
  case round =>
    clear hI
    obtain ⟨k, hk, rfl, hI⟩ := hrel
    by_cases hlt : k < 64
    · have hlt' : (k : Int) < 64 := by omega
      have hfz := hI.ws.free k
      have hck := hI.ws.cell (rwcells_zat blk.data.toList k hlt)
      by_cases h16 : k < 16
      · have h16' : (k : Int) < 16 := by omega
        have h4 : (4 : Int) * k + 4 ≤ blk.size := by omega
        have h5 : (4 : Int) * k ≤ 4 * k + 4 := by omega
        have h6 : (0 : Int) ≤ 4 * k := by omega
        have h7 : (0 : Int) ≤ 4 * k + 4 := by omega
        have HI := Lib.hid hI; clear hI
        go_wp2_with fail
        refine (rget4_walk _ _ (by simp; omega)).mono ?_
        rintro e w' ⟨rfl, rfl⟩
        rw [extract_toList, be32_four]
        go_wp2_with fail
        go_roundw
        case rel => exact ⟨k + 1, by omega, by go_num, HI.out.next hlt (nextWord_lo _ _ h16).symm⟩
        case measure => simp [intOf]; omega
      · have h16' : (16 : Int) ≤ k := by omega
        obtain ⟨i16, h16'⟩ : ∃ i, i = k - 16 := ⟨_, rfl⟩
        obtain ⟨i15, h15'⟩ : ∃ i, i = k - 15 := ⟨_, rfl⟩
        obtain ⟨i7, h7'⟩ : ∃ i, i = k - 7 := ⟨_, rfl⟩
        obtain ⟨i2, h2'⟩ : ∃ i, i = k - 2 := ⟨_, rfl⟩
        obtain ⟨a16, H16⟩ : ∃ a, Hid (a = (wordsTo blk.data.toList k).getD i16 0) := ⟨_, rfl⟩
        obtain ⟨a15, H15⟩ : ∃ a, Hid (a = (wordsTo blk.data.toList k).getD i15 0) := ⟨_, rfl⟩
        obtain ⟨a7, H7⟩ : ∃ a, Hid (a = (wordsTo blk.data.toList k).getD i7 0) := ⟨_, rfl⟩
        obtain ⟨a2, H2⟩ : ∃ a, Hid (a = (wordsTo blk.data.toList k).getD i2 0) := ⟨_, rfl⟩
        have hw16 := hI.ws.cell (rwcells_at blk.data.toList k i16 (by omega)); rw [← H16.out] at hw16
        have hw15 := hI.ws.cell (rwcells_at blk.data.toList k i15 (by omega)); rw [← H15.out] at hw15
        have hw7 := hI.ws.cell (rwcells_at blk.data.toList k i7 (by omega)); rw [← H7.out] at hw7
        have hw2 := hI.ws.cell (rwcells_at blk.data.toList k i2 (by omega)); rw [← H2.out] at hw2
        have l16' : Lt32 a16 := ⟨by rw [H16.out]; exact wordsTo_lt _ _ _⟩
        have l15' : Lt32 a15 := ⟨by rw [H15.out]; exact wordsTo_lt _ _ _⟩
        have l7' : Lt32 a7 := ⟨by rw [H7.out]; exact wordsTo_lt _ _ _⟩
        have l2' : Lt32 a2 := ⟨by rw [H2.out]; exact wordsTo_lt _ _ _⟩
        obtain ⟨y0, Hy0⟩ : ∃ y, Hid (y = sg0 a15) := ⟨_, rfl⟩
        obtain ⟨y1, Hy1⟩ : ∃ y, Hid (y = sg1 a2) := ⟨_, rfl⟩
        have ly0 : Lt32 y0 := ⟨by rw [Hy0.out]; exact sg0_lt a15 l15'.lt⟩
        have ly1 : Lt32 y1 := ⟨by rw [Hy1.out]; exact sg1_lt a2 l2'.lt⟩
        have HI := Lib.hid hI; clear hI
        have e16 : IntKind.i64.wrap ((k : Int) - 16) = i16 := by rw [IntWalk.i64_in _ (by omega)]; omega
        have e15 : IntKind.i64.wrap ((k : Int) - 15) = i15 := by rw [IntWalk.i64_in _ (by omega)]; omega
        have e7 : IntKind.i64.wrap ((k : Int) - 7) = i7 := by rw [IntWalk.i64_in _ (by omega)]; omega
        have e2 : IntKind.i64.wrap ((k : Int) - 2) = i2 := by rw [IntWalk.i64_in _ (by omega)]; omega
        have l16 : (i16 : Int) < 64 := by omega
        have l15 : (i15 : Int) < 64 := by omega
        have l7 : (i7 : Int) < 64 := by omega
        have l2 : (i2 : Int) < 64 := by omega
        have HE := Lib.hid (And.intro h16' (And.intro h15' (And.intro h7' h2')))
        clear h16' h15' h7' h2'
        go_wp2_with fail
        refine wp_region_still_drew (by kernel_rfl) (by kernel_rfl) ?_
        iterate 10 still_step
        refine wpStill_nil ?_
        go_wp2_with fail
        refine (turn_walk a15 7 _ l15'.lt (by omega) (by omega)).mono ?_
        rintro e w' ⟨rfl, n1, rfl⟩
        go_wp2_with fail
        refine (turn_walk a15 18 _ l15'.lt (by omega) (by omega)).mono ?_
        rintro e w' ⟨rfl, n2, rfl⟩
        go_wp2_with fail
        rw [rsg0_num _ l15'.lt, ← Hy0.out]
        refine (turn_walk a2 17 _ l2'.lt (by omega) (by omega)).mono ?_
        rintro e w' ⟨rfl, n3, rfl⟩
        go_wp2_with fail
        refine (turn_walk a2 19 _ l2'.lt (by omega) (by omega)).mono ?_
        rintro e w' ⟨rfl, n4, rfl⟩
        go_wp2_with fail
        rw [rsg1_num _ l2'.lt, ← Hy1.out]
        refine wp_region_still_tail_drew 16 (by kernel_rfl) (by kernel_rfl) ?_
        simp only [List.take_succ_cons, List.take_zero, List.drop_succ_cons, List.drop_zero]
        iterate 16 still_step
        refine wpStill_nil ?_
        clear e16 e15 e7 e2
        go_wp2_with fail
        go_roundw
        case rel =>
          refine ⟨k + 1, by omega, by go_num, ?_⟩
          have hE := HE.out
          rw [rword_num _ _ _ _ l16'.lt ly0.lt l7'.lt ly1.lt]
          refine (HI.out.drewN _).next hlt ?_
          rw [nextWord_hi _ _ h16, H16.out, Hy0.out, H15.out, H7.out, Hy1.out, H2.out, hE.1, hE.2.1, hE.2.2.1, hE.2.2.2]
        case measure => simp [intOf]; omega
    · obtain rfl : k = 64 := by omega
      rw [show ((64 : Nat) : Int) = 64 from rfl]
      obtain ⟨ws, Hws⟩ : ∃ ws, Hid (ws = wordsTo blk.data.toList 64) := ⟨_, rfl⟩
      have hlw : Hid (ws.length = 64) := by show _ = _; rw [Hws.out, wordsTo_length]
      obtain ⟨wo, rfl⟩ : ∃ wo : World, wo = wr := ⟨_, rfl⟩
      have HI := Lib.hid hI; clear hI
      go_wp2_with (first
        | ((with_reducible refine wpList_load_blk 274 (.tmp 3) b3 s.rcells 274 _ HI.out.x Tryz.underlying274 rfl (rsize8 s) ?hgd ?ho ?hx ?_); (case hgd => rfl); (case ho => rfl); (case hx => rfl))
        | ((with_reducible refine wpList_alloc_new 274 S8.zero.rcells rzero8 (some 13) ?hgd ?ho ?hd ?_); (case hgd => rfl); (case ho => rfl); (case hd => rfl); (intro b13 w13 l13 B13 e13 z13))
        | ((with_reducible refine wpList_store_new 274 (.tmp 13) (.tmp 85) b13 S8.zero.rcells s.rcells 274 B13 rfl (rsize8 s) (S8.rcells_one _) ?hgd ?ho ?hx ?hy ?_); (case hgd => rfl); (case ho => rfl); (case hx => rfl); (case hy => rfl); (intro w14 B14 o14)))
      have hJ : RInv2 w s ws b3 b5 b6 b7 b13 (rnds ws s 0) w14 := by
        have hI := HI.out
        have hl := hI.lo
        have hz := hI.ws.lt
        refine ⟨o14.blk (hI.x.below e13 (by omega)) (by omega), o14.blk (hI.ks.below e13 (by omega)) (by omega), o14.blk (hI.out.below e13 (by omega)) (by omega), o14.blk ((hI.ws.ext (by rw [rwcells_end, Hws.out])).below e13 (by omega)) (by omega), B14, o14.below (hI.bel.trans (e13.mono (by have := hI.bel.size; omega))) (by have := hI.bel.size; omega), by omega⟩
      clear HI B13 B14 o14 e13 z13 l13
      go_loopw [14] (fun i wr => ∃ k : Nat, k ≤ 64 ∧ i = .int .i64 k ∧ RInv2 w s ws b3 b5 b6 b7 b13 (rnds ws s k) wr) (fun i _ => 64 - (intOf i).toNat)
      case atStart => exact ⟨0, by omega, rfl, hJ⟩
      case round =>
        clear hJ
        obtain ⟨k, hk, rfl, hI⟩ := hrel
        by_cases hlt : k < 64
        · have hlt' : (k : Int) < 64 := by omega
          obtain ⟨y, Hy⟩ : ∃ y, Hid (y = rnds ws s k) := ⟨_, rfl⟩
          rw [← Hy.out] at hI
          have hy : y.ok := by rw [Hy.out]; exact rnds_ok ws hs k
          obtain ⟨ya, yb, yc, yd, ye, yf, yg, yh⟩ := y
          obtain ⟨a0, a1, a2, a3, a4, a5, a6, a7⟩ := hy
          have A0 : Lt32 ya := ⟨a0⟩
          have A1 : Lt32 yb := ⟨a1⟩
          have A2 : Lt32 yc := ⟨a2⟩
          have A3 : Lt32 yd := ⟨a3⟩
          have A4 : Lt32 ye := ⟨a4⟩
          have A5 : Lt32 yf := ⟨a5⟩
          have A6 : Lt32 yg := ⟨a6⟩
          have A7 : Lt32 yh := ⟨a7⟩
          clear a0 a1 a2 a3 a4 a5 a6 a7
          obtain ⟨kk, Hkk⟩ : ∃ kk, Hid (kk = roundK.getD k 0) := ⟨_, rfl⟩
          obtain ⟨wk, Hwk⟩ : ∃ wk, Hid (wk = ws.getD k 0) := ⟨_, rfl⟩
          have lk : Lt32 kk := ⟨by rw [Hkk.out]; exact roundK_lt k⟩
          have lw : Lt32 wk := ⟨by rw [Hwk.out, Hws.out]; exact wordsTo_lt _ _ _⟩
          have c0 : wr.cell? ⟨b13, 0, none⟩ = some (.int .i64 ya) := hI.y.cell rfl
          have c1 : wr.cell? ⟨b13, 1, none⟩ = some (.int .i64 yb) := hI.y.cell rfl
          have c2 : wr.cell? ⟨b13, 2, none⟩ = some (.int .i64 yc) := hI.y.cell rfl
          have c3 : wr.cell? ⟨b13, 3, none⟩ = some (.int .i64 yd) := hI.y.cell rfl
          have c4 : wr.cell? ⟨b13, 4, none⟩ = some (.int .i64 ye) := hI.y.cell rfl
          have c5 : wr.cell? ⟨b13, 5, none⟩ = some (.int .i64 yf) := hI.y.cell rfl
          have c6 : wr.cell? ⟨b13, 6, none⟩ = some (.int .i64 yg) := hI.y.cell rfl
          have c7 : wr.cell? ⟨b13, 7, none⟩ = some (.int .i64 yh) := hI.y.cell rfl
          have ck : wr.cell? ⟨b5, k, none⟩ = some (.int .i64 kk) := by rw [Hkk.out]; exact hI.ks.cell (nums64_at _ _ (by show k < 64; exact hlt))
          have cw : wr.cell? ⟨b7, k, none⟩ = some (.int .i64 wk) := by rw [Hwk.out]; exact hI.ws.cell (nums64_at _ _ (by rw [hlw.out]; exact hlt))
          have HI := Lib.hid hI; clear hI
          go_wp2_with fail
          refine wp_region_still_drew (by kernel_rfl) (by kernel_rfl) ?_
          iterate 24 still_step
          refine wpStill_nil ?_
          have HI1 : Hid (RInv2 w s ws b3 b5 b6 b7 b13 ⟨ya, yb, yc, yd, ye, yf, yg, yh⟩ wr.drew) := HI.out.drewN 1
          have ck1 : wr.drew.cell? ⟨b5, k, none⟩ = some (.int .i64 kk) := ck
          have cw1 : wr.drew.cell? ⟨b7, k, none⟩ = some (.int .i64 wk) := cw
          clear c0 c1 c2 c3 c4 c5 c6 c7 ck cw HI
          revert HI1 ck1 cw1
          generalize wr.drew = w1
          intro HI1 ck1 cw1
          go_wp2_with fail
          go_quiet ((go_at_call 298; refine Calls.quiet_of (turn_walk ye _ _ A4.lt (by omega) (by omega))))
          go_wp2_with fail
          obtain ⟨t, Ht⟩ : ∃ t, Hid (t = tOf ⟨ya, yb, yc, yd, ye, yf, yg, yh⟩ kk wk) := ⟨_, rfl⟩
          obtain ⟨u, Hu⟩ : ∃ u, Hid (u = uOf ⟨ya, yb, yc, yd, ye, yf, yg, yh⟩) := ⟨_, rfl⟩
          rw [rt_num ya yb yc yd ye yf yg yh kk wk A4.lt A5.lt A6.lt A7.lt lk.lt lw.lt, ← Ht.out]
          refine (turn_walk ya _ _ A0.lt (by omega) (by omega)).mono ?_
          rintro e w' ⟨rfl, n1, rfl⟩
          go_wp2_with fail
          refine (turn_walk ya _ _ A0.lt (by omega) (by omega)).mono ?_
          rintro e w' ⟨rfl, n2, rfl⟩
          go_wp2_with fail
          refine (turn_walk ya _ _ A0.lt (by omega) (by omega)).mono ?_
          rintro e w' ⟨rfl, n3, rfl⟩
          go_wp2_with ((with_reducible refine wpList_store_new 274 (.tmp 13) (.tmp 167) b13 (S8.rcells ⟨ya, yb, yc, yd, ye, yf, yg, yh⟩) ?cs 274 (HI1.out.drewN _).y ?hl ?hi ?h1 ?hgd ?ho ?hx ?hy ?_); (case hgd => rfl); (case ho => rfl); (case hx => rfl); (case hy => rfl); (case hl => rfl); (case hi => exact rsize8 S8.zero); (case h1 => (intro v hv; simp only [List.mem_cons, List.not_mem_nil, or_false] at hv; rcases hv with rfl | rfl | rfl | rfl | rfl | rfl | rfl | rfl <;> rfl)); (intro w13 B7n o13))
          go_roundw
          case rel =>
            have ht := tOf_lt (k := kk) (w := wk) (s := ⟨ya, yb, yc, yd, ye, yf, yg, yh⟩) A4.lt A7.lt lk.lt lw.lt
            have hu := uOf_lt (s := ⟨ya, yb, yc, yd, ye, yf, yg, yh⟩) A0.lt A1.lt
            have hd := A3.lt
            rw [← Ht.out] at ht
            rw [← Hu.out] at hu
            rw [ru_num ya yb yc yd ye yf yg yh A0.lt A1.lt A2.lt, ← Hu.out, radd_num _ _ ht hu, radd_num _ _ (by omega) ht] at B7n
            have eN : rnds ws s (k + 1) = rnd ⟨ya, yb, yc, yd, ye, yf, yg, yh⟩ kk wk := by
              rw [show rnds ws s (k + 1) = rnd (rnds ws s k) (roundK.getD k 0) (ws.getD k 0) from rfl, ← Hy.out, ← Hkk.out, ← Hwk.out]
            refine ⟨k + 1, by omega, by go_num, ?_⟩
            rw [eN]
            have hI := HI1.out.drewN (nq + n1 + n2 + n3)
            refine ⟨o13.blk hI.x ?_, o13.blk hI.ks ?_, o13.blk hI.out ?_, o13.blk hI.ws ?_, B7n.ext ?_, o13.below hI.bel ?_, hI.lo⟩
            all_goals have hlo := hI.lo
            · omega
            · omega
            · omega
            · omega
            · rw [Ht.out, Hu.out]; rfl
            · omega
          case measure => simp [intOf]; omega
        · obtain rfl : k = 64 := by omega
          obtain ⟨y, Hy⟩ : ∃ y, Hid (y = rnds ws s 64) := ⟨_, rfl⟩
          rw [← Hy.out] at hI
          have hyo : y.ok := by rw [Hy.out]; exact rnds_ok ws hs 64
          have hU : RInv3 w s b3 b6 b13 (mix y.l s.l 0) wr := ⟨hI.x, hI.out, hI.y, hI.bel, by have := hI.lo; omega⟩
          clear hI
          obtain ⟨wo, rfl⟩ : ∃ wo : World, wo = wr := ⟨_, rfl⟩
          have HU := Lib.hid hU; clear hU
          rw [show ((64 : Nat) : Int) = 64 from rfl]
          go_wp2_with fail
          go_loopw [25] (fun i wr => ∃ k : Nat, k ≤ 8 ∧ i = .int .i64 k ∧ RInv3 w s b3 b6 b13 (mix y.l s.l k) wr) (fun i _ => 8 - (intOf i).toNat)
          case atStart => exact ⟨0, by omega, rfl, HU.out⟩
          case round =>
            obtain ⟨k, hk, rfl, hI⟩ := hrel
            clear HU
            by_cases hlt : k < 8
            · have hlt' : (k : Int) < 8 := by omega
              obtain ⟨yk, Hyk⟩ : ∃ a, Hid (a = y.l.getD k 0) := ⟨_, rfl⟩
              obtain ⟨xk, Hxk⟩ : ∃ a, Hid (a = s.l.getD k 0) := ⟨_, rfl⟩
              have ly : Lt32 yk := ⟨by rw [Hyk.out]; exact S8.l_lt hyo k⟩
              have lx : Lt32 xk := ⟨by rw [Hxk.out]; exact S8.l_lt hs k⟩
              have cy : wr.cell? ⟨b13, k, none⟩ = some (.int .i64 yk) := by
                rw [hI.y.cell (nums64_at _ _ (by rw [mix_length]; exact hlt)), mix_at _ _ _ _ hlt, if_neg (by omega), ← Hyk.out]
              have cx : wr.cell? ⟨b3, k, none⟩ = some (.int .i64 xk) := by
                rw [hI.x.cell (nums64_at _ _ (by exact hlt)), ← Hxk.out]
              have cf := hI.y.free k
              have HI := Lib.hid hI; clear hI
              go_wp2_with fail
              refine wp_region_still_tail_drew 10 (by kernel_rfl) (by kernel_rfl) ?_
              simp only [List.take_succ_cons, List.take_zero, List.drop_succ_cons, List.drop_zero]
              iterate 10 still_step
              refine wpStill_nil ?_
              go_wp2_with fail
              go_roundw
              case rel =>
                have hI := HI.out
                refine ⟨k + 1, by omega, by go_num, ?_⟩
                rw [radd_num _ _ (by have := ly.lt; omega) (by have := lx.lt; omega)]
                refine ⟨(hI.x.drewN 1).set_other (by have := hI.lo; show b3 ≠ b13; omega) _, (hI.out.drewN 1).set_other (by have := hI.lo; show b6 ≠ b13; omega) _, ?_, (Below.drewN hI.bel 1).setCell (by have := hI.lo; show w.heap.size ≤ b13; omega) _, hI.lo⟩
                refine ((hI.y.drewN 1).set k _).ext ?_
                rw [← rmix_set _ _ _ hlt, ← Hyk.out, ← Hxk.out]
              case measure => simp [intOf]; omega
            · obtain rfl : k = 8 := by omega
              have HI := Lib.hid hI; clear hI
              obtain ⟨r, Hr⟩ : ∃ r, Hid (r = y.add s) := ⟨_, rfl⟩
              have ey : Hid (nums64 (mix y.l s.l 8) = r.rcells) := by show _ = _; rw [rmix_all, Hr.out]
              have er : Hid (r = stp s blk.data.toList) := by show _ = _; rw [Hr.out, Hy.out, Hws.out]; rfl
              go_wp2_with (first
                | ((with_reducible refine wpList_load_blk 274 (.tmp 13) b13 r.rcells 274 _ (HI.out.y.ext ey.out) Tryz.underlying274 rfl (rsize8 r) ?hgd ?ho ?hx ?_); (case hgd => rfl); (case ho => rfl); (case hx => rfl))
                | ((with_reducible refine wpList_store_new 274 (.tmp 6) (.tmp 182) b6 S8.zero.rcells r.rcells 274 HI.out.out rfl (rsize8 r) (S8.rcells_one _) ?hgd ?ho ?hx ?hy ?_); (case hgd => rfl); (case ho => rfl); (case hx => rfl); (case hy => rfl); (intro w12 B4w o12))
                | ((with_reducible refine bodyPost_ret (v := r.rval) ?hr ?hd ?hR)
                   (case hd => rfl)
                   (case hR => exact ⟨by rw [er.out], o12.below HI.out.bel (by have := HI.out.lo; omega)⟩)
                   (case hr => exact results_cell_row rfl _ _ b6 _ _ _ _ rfl B4w Tryz.underlying274 rfl (rsize8 r))))
end Go.Proofs.YtppdboadjefieaaGreat
namespace Go.Proofs.YtppdboadjefieaaGreat
set_option linter.unusedSimpArgs false
set_option linter.unusedVariables false
open Go Go.RowKit
set_option linter.unusedVariables false

theorem wpStill_load_blk {P : Program} {ops : Array Oper} {rest : List Oper} {o : Oper} {a : Act} {w : World} {Q : Act → Prop}
    (ty : TypeId) (x : Operand) (b : Nat) (cs : List Value) (t : TypeId) (d : TypeDesc) (hb : Blk w b cs t)
    (hu : P.underlying ty = some d) (hd : d.isRow = true) (hi : (P.info? ty).map (·.size) = some cs.length)
    (hgd : o.guard = none) (ho : o.op = .load ty x) (hx : a.eval x = .pointer (some ⟨b, 0, none⟩))
    (h : wpStill P ops w Q rest (a.put o.dst (.agg cs.toArray))) : wpStill P ops w Q (o :: rest) a := by
  refine wpStill_step (fun K hK => ?_)
  have hw : Region.wanted o (yielded ops a.tmps) = true := by simp [Region.wanted, hgd]
  rw [if_pos hw]
  unfold Oper.still
  have e : (execOp a.eval o).run P w = .ok (.value (.agg cs.toArray)) w := by
    unfold execOp
    simp only [ho, hx, Instr.loadAt, Instr.sureAddr, Sem.run_bind, Sem.run_pure, Result.andThen_ok, run_loadVar_mid w b 0 ty cs d hb.range hu hd hi]
  rw [e, Oper.stillUpon_value]
  exact hK _ h

theorem rpad_tail (n k : Nat) (h : k ≤ 63 - (n + 8) % 64) : ((n : Int) + (1 + (k : Int))) % 64 = 56 ↔ k = 63 - (n + 8) % 64 := by omega

set_option maxRecDepth 100000 in
set_option maxHeartbeats 1000000 in
theorem rpad_walk (n : Nat) (w : World) (hn : n ≤ 1073741824) :
    Calls Tryz.prog 195 #[.int .i64 n] w fun e w' => ∃ r, e = .returned (.string r) ∧ Txt r (padL n) ∧ Below w.heap.size w w' := by
  have e1 : (n : Int) ≤ 1073741824 := by omega
  obtain ⟨m, Hm⟩ : ∃ m, Hid (m = 63 - (n + 8) % 64) := ⟨_, rfl⟩
  have hm : m ≤ 63 := by have := Hm.out; omega
  obtain ⟨p, hp, tp⟩ : ∃ q, str [128] = Value.string q ∧ Txt q [128] := ⟨_, rfl, Txt.mk _⟩
  have HP := Lib.hid hp; clear hp
  go_enter Tryz.func195, Tryz.ntmps195
  go_wp2_with (first
    | ((with_reducible refine wpList_slice_new 121 5 1 ?parts [.int .u8 128] (.int .u8 0) 1 1 (some 6) Tryz.underlying121 infoByte (by omega) (by omega) ?hgd ?ho ?hd ?hf ?_); (case hgd => rfl); (case ho => rfl); (case hd => rfl); (case hf => kernel_rfl); (intro g w1 l1 B1 e1' z1); (have HB1 : Hid (Blk w1 g (bytesV [128]) 5) := B1.ext rfl); (clear B1))
    | ((with_reducible refine wpList_string_bytes 121 9 5 (.tmp 6) [128] g 0 1 1 (some 7) Tryz.underlying121 Tryz.underlying5 Tryz.underlying9 HB1.out.range (List.length_singleton (a := (128 : UInt8))).symm ?hgd ?ho ?hd ?hx ?_); (case hgd => rfl); (case ho => rfl); (case hd => rfl); (case hx => rfl); (rw [HP.out])))
  have hbel0 := e1'.mono l1
  clear HB1 e1' l1 z1
  go_loopw [3] (fun v wr => ∃ (k : Nat) (r : ByteArray), k ≤ m ∧ v = .string r ∧ Txt r ([128] ++ List.replicate k 0) ∧ Below w.heap.size w wr) (fun v _ => 64 - txtLen v)
  case atStart => exact ⟨0, p, by omega, rfl, tp.cast (by simp), hbel0⟩
  case round =>
    clear hbel0 tp
    obtain ⟨k, r, hk, rfl, tr, hbel⟩ := hrel
    have hr : (r.size : Int) = 1 + (k : Int) := by rw [tr.size]; simp; omega
    have hr' : r.size = 1 + k := by omega
    have HR := Lib.hid hr'; clear hr'
    by_cases hlt : k < m
    · have hne : ¬ ((n : Int) + (1 + (k : Int))) % 64 = 56 := by
        have := Hm.out
        rw [rpad_tail n k (by omega)]; omega
      go_wp2_with fail
      refine (noughts_walk 1 _ (by omega) (by omega)).mono ?_
      rintro e w2 ⟨q, rfl, tq, hb2⟩
      have hq : q.size = 1 := by rw [tq.size]; rfl
      have hk63 : (k : Int) ≤ 63 := by omega
      go_wp2_with fail
      go_roundw
      case rel =>
        have y := hbel.size
        refine ⟨k + 1, _, by omega, rfl, (tr.append tq).cast ?_, hbel.trans (hb2.mono y)⟩
        rw [List.append_assoc, show (1 : Int).toNat = 1 from rfl, List.replicate_append_replicate]
      case measure =>
        have := HR.out
        simp [txtLen]
        omega
    · obtain rfl : k = m := by omega
      have hne : ((n : Int) + (1 + (k : Int))) % 64 = 56 := by
        have := Hm.out
        rw [rpad_tail n k (by omega)]; omega
      obtain ⟨q, Hq⟩ : ∃ q, Hid (q = 8 * n) := ⟨_, rfl⟩
      have e8 : (8 : Int) * (n : Int) = (q : Int) := by have := Hq.out; omega
      have hq : q ≤ 8589934592 := by have := Hq.out; omega
      have hk63 : (k : Int) ≤ 63 := by omega
      go_wp2_with fail
      refine (rput_walk q 8 _ (by omega)).mono ?_
      rintro e w2 ⟨he, hb2⟩
      obtain ⟨t, rfl, tt⟩ := he.yes ⟨by omega, by omega, by omega, by show q < 256 ^ 8; omega⟩
      clear he
      have ht : t.size = 8 := by rw [tt.size, beBytes_length]; rfl
      go_wp2_with fail
      go_ret
      refine ⟨_, rfl, (tr.append tt).cast ?_, hbel.trans (hb2.mono hbel.size)⟩
      rw [padL_eq, ← Hm.out, ← Hq.out]; rfl

set_option maxRecDepth 100000 in
set_option maxHeartbeats 1000000 in
theorem rsum_walk (s : ByteArray) (w : World) (hs : s.size ≤ 1073741824) :
    Calls Tryz.prog 106 #[.string s] w fun e w' => ∃ r, e = .returned (.string r) ∧ Txt r (sha s.data.toList) ∧ Below w.heap.size w w' := by
  have hl64 : Hid ((nums64 roundK).length = 64) := by show _ = _; rfl
  have hlz : Hid ((zeros64 64).length = 64) := by show _ = _; simp [zeros64]
  go_enter Tryz.func106, Tryz.ntmps106
  go_wp2_with fail
  refine (rpad_walk s.size _ hs).mono ?_
  rintro e w1 ⟨p, rfl, tp, hb1⟩
  have hp : p.size ≤ 72 := by rw [tp.size, padL_length]; omega
  go_wp2_with fail
  obtain ⟨all, hall⟩ : ∃ a, a = s ++ p := ⟨_, rfl⟩
  obtain ⟨L, HL⟩ : ∃ L, Hid (L = s.data.toList ++ padL s.size) := ⟨_, rfl⟩
  obtain ⟨N, HN⟩ : ∃ N, Hid (N = L.length / 64) := ⟨_, rfl⟩
  have tL : Txt all L := by rw [hall, HL.out]; exact (Txt.self s).append tp
  have hz : all.size = 64 * N := by
    rw [tL.size, HN.out, HL.out, List.length_append, padL_length, show s.data.toList.length = s.size from rfl]; omega
  have hz2 : all.size ≤ 1073741896 := by rw [hall, ByteArray.size_append]; omega
  rw [← hall]
  clear hall tp hp
  have HZ := Lib.hid hz; clear hz
  refine (rbegin_walk _).mono ?_
  rintro e w2 ⟨rfl, hb2⟩
  go_wp2_with fail
  refine (rrounds_walk _).mono ?_
  rintro e w3 ⟨rfl, hb3⟩
  go_wp2_with (first
    | ((with_reducible refine wpList_alloc_new 274 S8.zero.rcells rzero8 (some 4) ?hgd ?ho ?hd ?_); (case hgd => rfl); (case ho => rfl); (case hd => rfl); (intro b4 w4 l4 B4 e4 z4))
    | ((with_reducible refine wpList_alloc_new 276 (zeros64 64) rzero64 (some 5) ?hgd ?ho ?hd ?_); (case hgd => rfl); (case ho => rfl); (case hd => rfl); (intro b5 w5 l5 B5 e5 z5); (have B4' := B4.below e5 (by omega)))
    | ((with_reducible refine wpList_store_new 274 (.tmp 4) (.tmp 12) b4 S8.zero.rcells S8.first.rcells 274 B4' rfl (rsize8 S8.first) (S8.rcells_one _) ?hgd ?ho ?hx ?hy ?_); (case hgd => rfl); (case ho => rfl); (case hx => rfl); (case hy => rfl); (intro w6 B4w o6); (have B5' := o6.blk B5 (by omega)))
    | ((with_reducible refine wpList_store_new 276 (.tmp 5) (.tmp 13) b5 (zeros64 64) (nums64 roundK) 276 B5' (hl64.out.trans hlz.out.symm) (rsize64.trans (congrArg some hl64.out.symm)) (nums64_one _) ?hgd ?ho ?hx ?hy ?_); (case hgd => rfl); (case ho => rfl); (case hx => rfl); (case hy => rfl); (intro w7 B5w o7)))
  have q1 := hb1.size
  have q2 := hb2.size
  have q3 := hb3.size
  have q6 := o6.size
  have B4f : Hid (Blk w7 b4 (S8.rcells (blocks 0 S8.first L)) 274) := o7.blk B4w (by omega)
  have B5f : Hid (Blk w7 b5 (nums64 roundK) 276) := B5w
  have hbel : Hid (Below w.heap.size w w7) := o7.below (o6.below ((((hb1.trans (hb2.mono (by omega))).trans (hb3.mono (by omega))).trans (e4.mono (by omega))).trans (e5.mono (by omega))) (by omega)) (by omega)
  have hlo : w.heap.size ≤ b4 ∧ b4 < b5 := by omega
  clear B4 B5 B4' B5' B4w B5w o6 o7 e4 e5 hb1 hb2 hb3 q1 q2 q3 q6 l4 l5 z4 z5
  go_loopw [6] (fun i wr => ∃ k t : Nat, k ≤ N ∧ i = .int .i64 t ∧ t = 64 * k ∧ Blk wr b4 (S8.rcells (blocks k S8.first L)) 274 ∧ Blk wr b5 (nums64 roundK) 276 ∧ Below w.heap.size w wr) (fun i _ => all.size - (intOf i).toNat)
  case atStart => exact ⟨0, 0, by omega, rfl, rfl, B4f.out, B5f.out, hbel.out⟩
  case round =>
    clear B4f B5f hbel
    obtain ⟨k, t, hk, rfl, ht, h4, h5, hbel⟩ := hrel
    obtain ⟨st, Hst⟩ : ∃ st, Hid (st = blocks k S8.first L) := ⟨_, rfl⟩
    rw [← Hst.out] at h4
    have hok : st.ok := by rw [Hst.out]; exact blocks_ok k S8.first_ok L
    have HO := Lib.hid hok; clear hok
    have HT := Lib.hid ht; clear ht
    have H4 := Lib.hid h4; clear h4
    have H5 := Lib.hid h5; clear h5
    by_cases hlt : k < N
    · have hlt' : (t : Int) < all.size := by have := HT.out; have := HZ.out; omega
      have hle : (t : Int) + 64 ≤ all.size := by have := HT.out; have := HZ.out; omega
      have hle2 : (t : Int) ≤ (t : Int) + 64 := by omega
      have hle3 : (0 : Int) ≤ (t : Int) + 64 := by omega
      have ew : IntKind.i64.wrap ((t : Int) + 64) = (t : Int) + 64 := IntWalk.i64_in _ (by omega)
      go_wp2_with fail
      refine wp_region_still_tail_drew 7 (by kernel_rfl) (by kernel_rfl) ?_
      simp only [List.take_succ_cons, List.take_zero, List.drop_succ_cons, List.drop_zero]
      refine wpStill_load_blk 274 (.tmp 4) b4 st.rcells _ _ (H4.out.drewN 1) Tryz.underlying274 rfl (rsize8 st) rfl rfl rfl ?_
      iterate 5 still_step
      refine wpStill_load_blk 276 (.tmp 5) b5 (nums64 roundK) _ _ (H5.out.drewN 1) Tryz.underlying276 rfl (rsize64.trans (congrArg some hl64.out.symm)) rfl rfl rfl ?_
      refine wpStill_nil ?_
      go_wp2_with fail
      refine (rstep_walk st HO.out _ _ (by simp; omega)).mono ?_
      rintro e w8 ⟨rfl, hb8⟩
      obtain ⟨x, Hx⟩ : ∃ x, Hid (x = stp st (all.extract t (t + 64)).data.toList) := ⟨_, rfl⟩
      rw [← Hx.out]
      have B8 := Lib.hid ((H4.out.drewN 1).below hb8 (H4.out.drewN 1).lt)
      have B9 := Lib.hid ((H5.out.drewN 1).below hb8 (H5.out.drewN 1).lt)
      have hbel8 := Lib.hid ((Below.drewN hbel 1).trans (hb8.mono (Below.drewN hbel 1).size))
      clear hb8
      go_wp2_with ((with_reducible refine wpList_store_new 274 (.tmp 4) (.tmp 27) b4 st.rcells x.rcells 274 B8.out rfl (rsize8 x) (S8.rcells_one _) ?hgd ?ho ?hx ?hy ?_); (case hgd => rfl); (case ho => rfl); (case hx => rfl); (case hy => rfl); (intro w9 B4n o9))
      go_roundw
      case rel =>
        refine ⟨k + 1, t + 64, by omega, by simp, by have := HT.out; omega, B4n.ext ?_, o9.blk B9.out (by omega), o9.below hbel8.out (by omega)⟩
        rw [blocks_succ, ← Hst.out, Hx.out, tL.extract t (t + 64), List.drop_take, ← HT.out, show t + 64 - t = 64 by omega]
      case measure => simp [intOf]; omega
    · obtain rfl : k = N := by omega
      have hge : (all.size : Int) ≤ t := by have := HT.out; have := HZ.out; omega
      go_wp2_with ((with_reducible refine wpList_load_blk 274 (.tmp 4) b4 st.rcells 274 _ H4.out Tryz.underlying274 rfl (rsize8 st) ?hgd ?ho ?hx ?_); (case hgd => rfl); (case ho => rfl); (case hx => rfl))
      refine (rtext_walk st HO.out _).mono ?_
      rintro e w8 ⟨r, rfl, tr, hb8⟩
      go_wp2_with fail
      go_ret
      refine ⟨r, rfl, tr.cast ?_, hbel.trans (hb8.mono hbel.size)⟩
      rw [Hst.out, HN.out, HL.out]; rfl
end Go.Proofs.YtppdboadjefieaaGreat
namespace Go.Proofs.YtppdboadjefieaaGreat
set_option linter.unusedSimpArgs false
set_option linter.unusedVariables false
open Go Go.RowKit
set_option linter.unusedVariables false

theorem rkey_walk (k : ByteArray) (w : World) (hk : k.size ≤ 16777216) :
    Calls Tryz.prog 467 #[.string k] w fun e w' => ∃ r, e = .returned (.string r) ∧ Txt r (hkey k.data.toList) ∧ Below w.heap.size w w' := by
  by_cases c1 : 64 < k.size
  · have d1 : (64 : Int) < k.size := by omega
    go_enter Tryz.func467, Tryz.ntmps467
    go_wp2_with fail
    refine (rsum_walk k _ (by omega)).mono ?_
    rintro e w1 ⟨q, rfl, tq, hb1⟩
    have hq : q.size = 32 := by rw [tq.size, sha_length]
    go_wp2_with fail
    refine (noughts_walk _ _ (by omega) (by omega)).mono ?_
    rintro e w2 ⟨z, rfl, tz, hb2⟩
    have hz : z.size = 32 := by rw [tz.size]; rfl
    go_wp2_with fail
    go_ret
    refine ⟨_, rfl, (tq.append tz).cast ?_, hb1.trans (hb2.mono hb1.size)⟩
    unfold hkey; rw [if_pos (show 64 < k.data.toList.length from c1)]; rfl
  · have d1 : (k.size : Int) ≤ 64 := by omega
    obtain ⟨m, Hm⟩ : ∃ m, Hid (m = 64 - k.size) := ⟨_, rfl⟩
    have em : (64 : Int) - k.size = (m : Int) := by have := Hm.out; omega
    have hm : m ≤ 64 := by have := Hm.out; omega
    go_enter Tryz.func467, Tryz.ntmps467
    go_wp2_with fail
    refine (noughts_walk m _ (by omega) (by omega)).mono ?_
    rintro e w2 ⟨z, rfl, tz, hb2⟩
    have hz : z.size ≤ 64 := by rw [tz.size]; simpa using hm
    go_wp2_with fail
    go_ret
    refine ⟨_, rfl, ((Txt.self k).append tz).cast ?_, hb2⟩
    unfold hkey; rw [if_neg (show ¬ 64 < k.data.toList.length from c1), Hm.out]; rfl

set_option maxRecDepth 100000 in
set_option maxHeartbeats 1000000 in
theorem rheld_walk (k : ByteArray) (n : Int) (x : UInt8) (w : World) (hk : k.size ≤ 16777216) (hn : n = ((x.toNat : Nat) : Int)) :
    Calls Tryz.prog 458 #[.string k, .int .i64 n] w fun e w' => ∃ r, e = .returned (.string r) ∧ Txt r (heldL k.data.toList x) ∧ Below w.heap.size w w' := by
  have HN := Lib.hid hn; clear hn
  go_enter Tryz.func458, Tryz.ntmps458
  go_wp2_with fail
  refine (rkey_walk k _ hk).mono ?_
  rintro e w1 ⟨q, rfl, tq, hb1⟩
  have hq : (q.size : Int) = 64 := by rw [tq.size, hkey_length]; rfl
  have hq2 : q.size = 64 := by rw [tq.size, hkey_length]
  go_wp2_with fail
  go_loopw [6, 7] (fun v i wr => ∃ (j : Nat) (r : ByteArray), j ≤ 64 ∧ i = .int .i64 j ∧ v = .string r ∧ Txt r ((hkey k.data.toList).take j |>.map fun c => c ^^^ x) ∧ Below w.heap.size w wr) (fun v i _ => 64 - (intOf i).toNat)
  case atStart => exact ⟨0, ⟨#[]⟩, by omega, rfl, rfl, (Txt.mk []).cast (by simp), hb1⟩
  case round =>
    clear hb1
    obtain ⟨j, r, hj, rfl, rfl, tr, hbel⟩ := hrel
    have hr : r.size ≤ 64 := by rw [tr.size, List.length_map, List.length_take]; omega
    by_cases hlt : j < 64
    · have hlt' : (j : Int) < 64 := by omega
      have hjq : j < q.size := by omega
      obtain ⟨c, Hc⟩ : ∃ c : UInt8, Hid (c = q[j] ^^^ x) := ⟨q[j] ^^^ x, Lib.hid rfl⟩
      obtain ⟨p, hp, tp⟩ : ∃ p, str [c] = Value.string p ∧ Txt p [c] := ⟨_, rfl, Txt.mk _⟩
      have HP := Lib.hid hp; clear hp
      have sp : p.size ≤ 1 := by rw [tp.size]; simp
      have hbj := q[j].toNat_lt
      have ec : bits BinOp.xor IntKind.i64 ((q[j].toNat : Nat) : Int) n % 256 = ((c.toNat : Nat) : Int) := by
        have h1 := x.toNat_lt
        have h2 : q[j].toNat ^^^ x.toNat < 256 := Nat.xor_lt_two_pow (n := 8) hbj h1
        rw [HN.out, i64_xor_nat _ _ (by omega) (by omega), Hc.out, UInt8.toNat_xor]
        omega
      have EC := Lib.hid ec; clear ec
      go_wp2_with (first
        | ((with_reducible refine wpList_slice_new 121 5 1 ?parts [.int .u8 (bits BinOp.xor IntKind.i64 ((q[j].toNat : Nat) : Int) n % 256)] (.int .u8 0) 1 1 (some 24) Tryz.underlying121 infoByte (by omega) (by omega) ?hgd ?ho ?hd ?hf ?_); (case hgd => rfl); (case ho => rfl); (case hd => rfl); (case hf => kernel_rfl); (intro g w2 l2 B2 e2 z2); (have HB2 : Hid (Blk w2 g (bytesV [c]) 5) := B2.ext (by rw [EC.out]; rfl)); (clear B2))
        | ((with_reducible refine wpList_string_bytes 121 9 5 (.tmp 24) [c] g 0 1 1 (some 25) Tryz.underlying121 Tryz.underlying5 Tryz.underlying9 HB2.out.range (List.length_singleton (a := c)).symm ?hgd ?ho ?hd ?hx ?_); (case hgd => rfl); (case ho => rfl); (case hd => rfl); (case hx => rfl); (rw [HP.out])))
      go_roundw
      case rel =>
        have y := hbel.size
        refine ⟨j + 1, _, by omega, by go_num, rfl, ?_, hbel.trans (e2.mono (by omega))⟩
        refine (tr.append tp).cast ?_
        have hl : j < (hkey k.data.toList).length := by rw [hkey_length]; exact hlt
        rw [List.take_succ_eq_append_getElem hl, List.map_append, Hc.out]
        have eq : (hkey k.data.toList)[j] = q[j] := by
          have := getD_data q j hjq
          rw [show q.data.toList = _ from tq] at this
          rw [← this, List.getD_eq_getElem?_getD, List.getElem?_eq_getElem hl]; rfl
        rw [← eq]; rfl
      case measure => simp [intOf]; omega
    · obtain rfl : j = 64 := by omega
      go_wp2_with fail
      go_ret
      refine ⟨r, rfl, tr.cast ?_, hbel⟩
      rw [List.take_of_length_le (by rw [hkey_length]; exact Nat.le_refl _)]; rfl

theorem rinner_walk (k m : ByteArray) (w : World) (hk : k.size ≤ 16777216) (hm : m.size ≤ 16777216) :
    Calls Tryz.prog 459 #[.string k, .string m] w fun e w' => ∃ r, e = .returned (.string r) ∧ Txt r (hinner k.data.toList m.data.toList) ∧ Below w.heap.size w w' := by
  go_enter Tryz.func459, Tryz.ntmps459
  go_wp2_with fail
  refine (rheld_walk k 54 54 _ hk rfl).mono ?_
  rintro e w1 ⟨q, rfl, tq, hb1⟩
  have hq : q.size = 64 := by rw [tq.size, heldL_length]
  go_wp2_with fail
  go_ret
  exact ⟨_, rfl, tq.append (Txt.self m), hb1⟩

theorem router_walk (k m : ByteArray) (w : World) (hk : k.size ≤ 16777216) (hm : m.size ≤ 16777216) :
    Calls Tryz.prog 426 #[.string k, .string m] w fun e w' => ∃ r, e = .returned (.string r) ∧ Txt r (houter k.data.toList m.data.toList) ∧ Below w.heap.size w w' := by
  go_enter Tryz.func426, Tryz.ntmps426
  go_wp2_with fail
  refine (rheld_walk k 92 92 _ hk rfl).mono ?_
  rintro e w1 ⟨q, rfl, tq, hb1⟩
  have hq : q.size = 64 := by rw [tq.size, heldL_length]
  go_wp2_with fail
  refine (rinner_walk k m _ hk hm).mono ?_
  rintro e w2 ⟨i, rfl, ti, hb2⟩
  have hi : i.size ≤ 16777280 := by rw [ti.size, hinner_length, show m.data.toList.length = m.size from rfl]; omega
  go_wp2_with fail
  refine (rsum_walk i _ (by omega)).mono ?_
  rintro e w3 ⟨h, rfl, th, hb3⟩
  have hh : h.size = 32 := by rw [th.size, sha_length]
  go_wp2_with fail
  go_ret
  have y1 := hb1.size
  have y2 := hb2.size
  exact ⟨_, rfl, tq.append (th.cast (by rw [ti])), (hb1.trans (hb2.mono (by omega))).trans (hb3.mono (by omega))⟩

theorem rmac_walk (k m : ByteArray) (w : World) (hk : k.size ≤ 16777216) (hm : m.size ≤ 16777216) :
    Calls Tryz.prog 395 #[.string k, .string m] w fun e w' => ∃ r, e = .returned (.string r) ∧ Txt r (mac k.data.toList m.data.toList) ∧ Below w.heap.size w w' := by
  go_enter Tryz.func395, Tryz.ntmps395
  go_wp2_with fail
  refine (router_walk k m _ hk hm).mono ?_
  rintro e w1 ⟨q, rfl, tq, hb1⟩
  have hq : q.size = 96 := by rw [tq.size, houter_length]
  go_wp2_with fail
  refine (rsum_walk q _ (by omega)).mono ?_
  rintro e w2 ⟨h, rfl, th, hb2⟩
  go_wp2_with fail
  go_ret
  exact ⟨_, rfl, th.cast (by rw [tq]; rfl), hb1.trans (hb2.mono hb1.size)⟩
end Go.Proofs.YtppdboadjefieaaGreat
