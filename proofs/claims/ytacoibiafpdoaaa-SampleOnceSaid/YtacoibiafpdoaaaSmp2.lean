/- Walks of sample.Number and the documents' Number (chapter 38). -/
import Derived.Test.YtacoibiafpdoaaaSmp1
namespace Go.Proofs.Ytacoibiafpdoaaa
open Go Go.RowKit
set_option linter.unusedVariables false

def smpB : ByteArray := ⟨#[115, 97, 109, 112, 108, 101]⟩
/-- A draw. -/
def drawL (s : List UInt8) (i j : Nat) : Nat := beNum ((madeL s smpB.data.toList [i, j]).take 7)
/-- Below what a draw serves. -/
def limS (b : Nat) : Nat := 72057594037927936 - 72057594037927936 % b
def firstS (s : List UInt8) (i b : Nat) : Nat := ((List.range 63).find? (fun j => decide (drawL s i j < limS b))).getD 63
/-- A number below another one. -/
def numS (s : List UInt8) (i b : Nat) : Nat := drawL s i (firstS s i b) % b
theorem firstS_of {s : List UInt8} {i b j : Nat} (hj : j < 64) (hb : ∀ k, k < j → limS b ≤ drawL s i k) (he : drawL s i j < limS b ∨ j = 63) : firstS s i b = j := by
  unfold firstS
  by_cases h : drawL s i j < limS b ∧ j < 63
  · rw [List.find?_range_eq_some.2 ⟨by simpa using h.1, by simpa using h.2, fun k hk => by simpa using hb k hk⟩]
    rfl
  · obtain rfl : j = 63 := by omega
    rw [List.find?_range_eq_none.2 (fun k hk => by simpa using hb k hk)]
    rfl
theorem numS_lt {s : List UInt8} {i b : Nat} (hb : 1 ≤ b) : numS s i b < b := Nat.mod_lt _ (by omega)
/-- The draw ahead of a try. -/
def wasS (s : List UInt8) (i : Nat) : Nat → Nat
  | 0 => 0
  | k + 1 => drawL s i k
/-- None of the tries ahead served. -/
def NoneYet (s : List UInt8) (i b k : Nat) : Prop := ∀ j, j < k → limS b ≤ drawL s i j
theorem numS_here {s : List UInt8} {i b k : Nat} (h : NoneYet s i b k) (hk : k < 64) (hd : drawL s i k < limS b) : drawL s i k % b = numS s i b := by
  unfold numS
  rw [firstS_of hk h (.inl hd)]
theorem numS_last {s : List UInt8} {i b : Nat} (h : NoneYet s i b 64) : wasS s i 64 % b = numS s i b := by
  unfold numS
  rw [firstS_of (j := 63) (by omega) (fun k hk => h k (by omega)) (.inr rfl)]
  rfl
/-- A number of seven bytes. -/
structure Seven (n : Nat) : Prop where
  lt : n < 72057594037927936
theorem drawL_lt (s : List UInt8) (i j : Nat) : Seven (drawL s i j) := by
  constructor
  have := beNum_lt ((madeL s smpB.data.toList [i, j]).take 7)
  rw [List.length_take, madeL_length] at this
  exact this
theorem lim_spell (b : Nat) (hb : 1 ≤ b) : (limS b : Int) = 72057594037927936 - 72057594037927936 % (b : Int) := by
  unfold limS
  rw [Int.ofNat_sub (Nat.mod_le 72057594037927936 b), Int.natCast_emod]
  rfl
theorem lim_spell2 (b : Nat) (hb : 1 ≤ b) : (limS b : Int) = 72057594037927936 / (b : Int) * (b : Int) := by
  rw [lim_spell b hb]
  have := Int.mul_ediv_add_emod 72057594037927936 (b : Int)
  rw [Int.mul_comm] at this
  omega
theorem smp_ok {i j : Nat} : saidOk smpB.data.toList [(i : Int), (j : Int)] = true := by
  simp [saidOk, smpB]
theorem smp_lt {i j : Nat} (hi : i ≤ 4294967295) (hj : j < 64) : ∀ (k : Nat) (x : Int), ([(i : Int), (j : Int)] : List Int)[k]? = some x → I64 x := by
  intro k x hx
  match k, hx with
  | 0, hx => simp at hx; subst hx; constructor; omega
  | 1, hx => simp at hx; subst hx; constructor; omega
theorem get7 {r : ByteArray} {s : List UInt8} {i j : Nat} (tr : Txt r (madeL s smpB.data.toList [i, j])) : Txt (r.extract 0 7) ((madeL s smpB.data.toList [i, j]).take 7) := (tr.extract 0 7).cast (by simp)
theorem get7_end {r : ByteArray} {s : List UInt8} {i j : Nat} {e : Ending} (tr : Txt r (madeL s smpB.data.toList [i, j])) (h : GetEnd (r.extract 0 7).data.toList e) : e = .returned (.tuple #[.int .i64 ((drawL s i j : Nat) : Int), .int .i64 0]) := by
  have h7 : (r.extract 0 7).data.toList = (madeL s smpB.data.toList [i, j]).take 7 := get7 tr
  rw [h7] at h
  have hl : ((madeL s smpB.data.toList [i, j]).take 7).length = 7 := by rw [List.length_take, madeL_length]; rfl
  rcases h with ⟨_, h⟩ | ⟨h, _⟩
  · exact h
  · have := (drawL_lt s i j).lt
    unfold drawL at this
    exact absurd ⟨by omega, by omega, by omega⟩ h

/-- May such a number be asked? -/
def NumberOk (s : ByteArray) (i b : Int) : Prop := (s.size : Int) = 32 ∧ 0 ≤ i ∧ i ≤ 4294967295 ∧ 1 ≤ b ∧ b ≤ 4194304
theorem ret_ii {a b c d : Int} (h : a = b) (h' : c = d) : Ending.returned (.tuple #[.int .i64 a, .int .i64 c]) = .returned (.tuple #[.int .i64 b, .int .i64 d]) := by rw [h, h']

set_option maxRecDepth 100000 in
set_option maxHeartbeats 1000000 in
theorem number38_no (s : ByteArray) (i b : Int) (w : World) (h : ¬ NumberOk s i b) :
    Calls Try.prog 70 #[.string s, .int .i64 i, .int .i64 b] w fun e w' => e = .returned (.tuple #[.int .i64 0, .int .i64 2]) ∧ w = w' := by
  by_cases h1 : (s.size : Int) = 32
  · by_cases h2 : 0 ≤ i
    · by_cases h3 : i ≤ 4294967295
      · by_cases h4 : 1 ≤ b
        · have h5 : 4194304 < b := by
            by_cases hb : b ≤ 4194304
            · exact absurd ⟨h1, h2, h3, h4, hb⟩ h
            · omega
          clear h
          go_enter Try.func70, Try.ntmps70
          go_wp2_with fail
          go_ret2
          exact ⟨rfl, rfl⟩
        · have h5 : b < 1 := by omega
          clear h h4
          go_enter Try.func70, Try.ntmps70
          go_wp2_with fail
          go_ret2
          exact ⟨rfl, rfl⟩
      · have h5 : 4294967295 < i := by omega
        clear h h3
        go_enter Try.func70, Try.ntmps70
        go_wp2_with fail
        go_ret2
        exact ⟨rfl, rfl⟩
    · have h5 : i < 0 := by omega
      clear h h2
      go_enter Try.func70, Try.ntmps70
      go_wp2_with fail
      go_ret2
      exact ⟨rfl, rfl⟩
  · clear h
    go_enter Try.func70, Try.ntmps70
    go_wp2_with fail
    go_ret2
    exact ⟨rfl, rfl⟩

set_option maxRecDepth 100000 in
set_option maxHeartbeats 1000000 in
theorem number38_yes (s : ByteArray) (i b : Nat) (w : World) (h1 : (s.size : Int) = 32) (h3 : i ≤ 4294967295) (h4 : 1 ≤ b) (h5 : b ≤ 4194304) :
    Calls Try.prog 70 #[.string s, .int .i64 (i : Int), .int .i64 (b : Int)] w fun e w' => e = .returned (.tuple #[.int .i64 ((numS s.data.toList i b : Nat) : Int), .int .i64 0]) ∧ Below w.heap.size w w' := by
  have g3 : (i : Int) ≤ 4294967295 := by omega
  have g4 : (1 : Int) ≤ (b : Int) := by omega
  have g5 : (b : Int) ≤ 4194304 := by omega
  have hsz : s.size ≤ 16777216 := by omega
  go_enter Try.func70, Try.ntmps70
  go_wp2_with fail
  go_loopw [8, 31] (fun n j wr => ∃ k : Nat, k ≤ 64 ∧ j = .int .i64 k ∧ n = .int .i64 ((wasS s.data.toList i k : Nat) : Int) ∧ NoneYet s.data.toList i b k ∧ Below w.heap.size w wr) (fun _ j _ => 64 - (intOf j).toNat)
  case atStart => exact ⟨0, by omega, rfl, rfl, fun j hj => by omega, Below.refl _ _⟩
  case round =>
    obtain ⟨k, hk, rfl, rfl, hN, hbel⟩ := hrel
    have HN := Lib.hid hN; clear hN
    by_cases hlt : k < 64
    · have hlt' : (k : Int) < 64 := by omega
      have D7 := drawL_lt s.data.toList i k
      go_wp2_with ((with_reducible refine wpList_slice_new 54 3 2 ?parts [.int .i64 (i : Int), .int .i64 (k : Int)] (.int .i64 0) 1 8 (some 38) Try.underlying54 infoInt (by omega) (by omega) ?hgd ?ho ?hd ?hf ?_); (case hgd => rfl); (case ho => rfl); (case hd => rfl); (case hf => kernel_rfl); (intro g w1 l1 B1 e1 z1))
      refine (key_walk s smpB _ [(i : Int), (k : Int)] _ hsz (IntRow.blk (xs := [(i : Int), (k : Int)]) B1 rfl 2) (fun j x h => (smp_lt h3 hlt j x h).lt) (by simp)).mono ?_
      rintro e w2 ⟨he, hb2⟩
      rcases he with ⟨_, r, rfl, tr⟩ | ⟨hno, _⟩
      rotate_left
      · rw [smp_ok] at hno; cases hno
      have tr' : Txt r (madeL s.data.toList smpB.data.toList [i, k]) := tr
      have hr : r.size = 32 := by rw [tr'.size, madeL_length]
      have HR := Lib.hid hr
      have hr7 : (7 : Int) ≤ r.size := by omega
      have HT := Lib.hid tr'
      clear tr tr' hr B1
      go_wp2_with fail
      refine (oget_walk (r.extract 0 7) _).mono ?_
      rintro e w3 ⟨he, rfl⟩
      obtain rfl := get7_end HT.out he
      clear he
      have hls := lim_spell b h4
      have hm0 : (0 : Int) ≤ 72057594037927936 % (b : Int) := Int.emod_nonneg _ (by omega)
      have hm1 : 72057594037927936 % (b : Int) < b := Int.emod_lt_of_pos _ (by omega)
      by_cases hd : drawL s.data.toList i k < limS b
      · have hd' : ((drawL s.data.toList i k : Nat) : Int) < 72057594037927936 - 72057594037927936 % (b : Int) := by omega
        have hd0 := hd
        clear hd hls
        go_wp2_with fail
        go_ret2
        have hn := numS_here HN.out hlt hd0
        exact ⟨ret_ii (by rw [← hn, Int.natCast_emod]) rfl, hbel.trans (((e1.mono l1).trans (hb2.mono (by omega))).mono hbel.size)⟩
      · have hd' : 72057594037927936 - 72057594037927936 % (b : Int) ≤ ((drawL s.data.toList i k : Nat) : Int) := by omega
        have hd0 : limS b ≤ drawL s.data.toList i k := by omega
        clear hd hls
        go_wp2_with fail
        go_roundw
        case rel =>
          refine ⟨k + 1, by omega, by go_num, rfl, ?_, ?_⟩
          · intro j hj
            by_cases hjk : j = k
            · rw [hjk]; exact hd0
            · exact HN.out j (by omega)
          · exact hbel.trans (((e1.mono l1).trans (hb2.mono (by omega))).mono hbel.size)
        case measure => simp [intOf]; omega
    · obtain rfl : k = 64 := by omega
      go_wp2_with fail
      go_ret2
      have hn := numS_last HN.out
      exact ⟨ret_ii (by rw [← hn, Int.natCast_emod]) rfl, hbel⟩

set_option maxRecDepth 100000 in
set_option maxHeartbeats 1000000 in
theorem rnumber38_walk (s : ByteArray) (i b : Nat) (w : World) (h1 : (s.size : Int) = 32) (h3 : i ≤ 4294967295) (h4 : 1 ≤ b) (h5 : b ≤ 4194304) :
    Calls Try.prog 71 #[.string s, .int .i64 (i : Int), .int .i64 (b : Int)] w fun e w' => e = .returned (.int .i64 ((numS s.data.toList i b : Nat) : Int)) ∧ Below w.heap.size w w' := by
  have g3 : (i : Int) ≤ 4294967295 := by omega
  have g4 : (1 : Int) ≤ (b : Int) := by omega
  have g5 : (b : Int) ≤ 4194304 := by omega
  have hsz : s.size = 32 := by omega
  have HSZ := Lib.hid hsz; clear hsz h1
  go_enter Try.func71, Try.ntmps71
  go_wp2_with fail
  go_loopw [7, 8] (fun n j wr => ∃ k : Nat, k ≤ 64 ∧ j = .int .i64 k ∧ n = .int .i64 ((wasS s.data.toList i k : Nat) : Int) ∧ NoneYet s.data.toList i b k ∧ Below w.heap.size w wr) (fun _ j _ => 64 - (intOf j).toNat)
  case atStart => exact ⟨0, by omega, rfl, rfl, fun j hj => by omega, Below.refl _ _⟩
  case round =>
    obtain ⟨k, hk, rfl, rfl, hN, hbel⟩ := hrel
    have HN := Lib.hid hN; clear hN
    by_cases hlt : k < 64
    · have hlt' : (k : Int) < 64 := by omega
      have D7 := drawL_lt s.data.toList i k
      go_wp2_with ((with_reducible refine wpList_slice_new 54 3 2 ?parts [.int .i64 (i : Int), .int .i64 (k : Int)] (.int .i64 0) 1 8 (some 19) Try.underlying54 infoInt (by omega) (by omega) ?hgd ?ho ?hd ?hf ?_); (case hgd => rfl); (case ho => rfl); (case hd => rfl); (case hf => kernel_rfl); (intro g w1 l1 B1 e1 z1))
      refine (rmade_walk s smpB _ [(i : Int), (k : Int)] _ (IntRow.blk (xs := [(i : Int), (k : Int)]) B1 rfl 2) (fun j x h => (smp_lt h3 hlt j x h).lt) (by simp)).mono ?_
      rintro e w2 ⟨he, hb2⟩
      rcases he with ⟨_, r, rfl, tr⟩ | ⟨hno, _⟩
      rotate_left
      · exact absurd ⟨HSZ.out, smp_ok⟩ hno
      have tr' : Txt r (madeL s.data.toList smpB.data.toList [i, k]) := tr
      have hr : r.size = 32 := by rw [tr'.size, madeL_length]
      have hr7 : (7 : Int) ≤ r.size := by omega
      have HT := Lib.hid tr'
      clear tr tr' hr B1
      go_wp2_with fail
      refine (rget_walk (r.extract 0 7) _).mono ?_
      rintro e w3 ⟨he, rfl⟩
      obtain rfl := get7_end HT.out he
      clear he
      have hls := lim_spell2 b h4
      have hm0 : (0 : Int) ≤ 72057594037927936 / (b : Int) * (b : Int) := by omega
      have hls1 := lim_spell b h4
      have hm2 : (0 : Int) ≤ 72057594037927936 % (b : Int) := Int.emod_nonneg _ (by omega)
      have hm1 : 72057594037927936 / (b : Int) * (b : Int) ≤ 72057594037927936 := by omega
      have hq0 : (0 : Int) ≤ 72057594037927936 / (b : Int) := Int.ediv_nonneg (by omega) (by omega)
      clear hm2 hls1
      by_cases hd : drawL s.data.toList i k < limS b
      · have hd' : ((drawL s.data.toList i k : Nat) : Int) < 72057594037927936 / (b : Int) * (b : Int) := by omega
        have hd0 := hd
        clear hd hls
        go_wp2_with fail
        go_ret
        have hn := numS_here HN.out hlt hd0
        exact ⟨ret_i (by rw [← hn, Int.natCast_emod]), hbel.trans (((e1.mono l1).trans (hb2.mono (by omega))).mono hbel.size)⟩
      · have hd' : 72057594037927936 / (b : Int) * (b : Int) ≤ ((drawL s.data.toList i k : Nat) : Int) := by omega
        have hd0 : limS b ≤ drawL s.data.toList i k := by omega
        clear hd hls
        go_wp2_with fail
        go_roundw
        case rel =>
          refine ⟨k + 1, by omega, by go_num, rfl, ?_, ?_⟩
          · intro j hj
            by_cases hjk : j = k
            · rw [hjk]; exact hd0
            · exact HN.out j (by omega)
          · exact hbel.trans (((e1.mono l1).trans (hb2.mono (by omega))).mono hbel.size)
        case measure => simp [intOf]; omega
    · obtain rfl : k = 64 := by omega
      go_wp2_with fail
      go_ret
      have hn := numS_last HN.out
      exact ⟨ret_i (by rw [← hn, Int.natCast_emod]), hbel⟩

theorem AskD.cells_one (x : AskD) : ∀ v ∈ x.cells, v.oneCell' = true := by intro v hv; simp [AskD.cells] at hv; rcases hv with rfl | rfl <;> rfl
theorem askSet {w : World} {b : Nat} {x y : AskD} (h : Blk w b x.cells 85) : Blk ((w.setCell ⟨b, 0, none⟩ (.int .i64 y.epoch)).setCell ⟨b, 1, none⟩ (.int .i64 y.lba)) b y.cells 85 := ((h.set 0 _).set 1 _).ext rfl
def PlaceEnd (f o l i : Int) (e : Ending) : Prop := e = .returned (.tuple #[(placeS f o l i).1.v, .int .i64 (placeS f o l i).2])
set_option maxRecDepth 100000 in
set_option maxHeartbeats 1000000 in
theorem place38_walk (f o l i : Int) (w : World) :
    Calls Try.prog 73 #[.int .i64 f, .int .i64 o, .int .i64 l, .int .i64 i] w fun e w' => PlaceEnd f o l i e ∧ Below w.heap.size w w' := by
  unfold PlaceEnd
  obtain ⟨t, ht⟩ : ∃ t, t = totalS f o l := ⟨_, rfl⟩
  have tb := totalS_bd f o l
  have HT := Lib.hid ht
  by_cases h0 : i < 0
  · have hp : placeS f o l i = (⟨0, 0⟩, 2) := by unfold placeS; rw [if_neg (by omega)]
    rw [hp]
    clear hp ht tb
    go_enter Try.func73, Try.ntmps73
    go_wp2_with (first | ((with_reducible refine wpList_alloc_new 85 (AskD.cells ⟨0, 0⟩) zeroAsk (some 8) ?hgd ?ho ?hd ?_); (case hgd => rfl); (case ho => rfl); (case hd => rfl); (intro b4 w4 l4 B4 e4 z4)) | ((with_reducible refine wpList_store_new 85 (.tmp 8) (.tmp 20) b4 (AskD.cells ⟨0, 0⟩) (AskD.cells ⟨0, 0⟩) 85 B4 rfl rsizeAsk (AskD.cells_one _) ?hgd ?ho ?hx ?hy ?_); (case hgd => rfl); (case ho => rfl); (case hx => rfl); (case hy => rfl); (intro w5 B5 o5)))
    (try simp only [Exit.inBlock, Exit.then]); refine bodyPost_ret (results_cell_ask (x := ⟨0, 0⟩) rfl _ _ (fun i u hu => B5.cell hu) rfl) rfl ⟨rfl, o5.below (e4.mono l4) l4⟩
  · by_cases h1 : t ≤ i
    · have hp : placeS f o l i = (⟨0, 0⟩, 2) := by unfold placeS; rw [if_neg (by omega)]
      rw [hp]
      have h0' : 0 ≤ i := by omega
      clear hp ht tb
      go_enter Try.func73, Try.ntmps73
      go_wp2_with (first | ((with_reducible refine wpList_alloc_new 85 (AskD.cells ⟨0, 0⟩) zeroAsk (some 8) ?hgd ?ho ?hd ?_); (case hgd => rfl); (case ho => rfl); (case hd => rfl); (intro b4 w4 l4 B4 e4 z4)))
      refine (total38_walk f o l _).mono ?_
      rintro e w1 ⟨rfl, rfl⟩
      rw [← HT.out]
      go_wp2_with (first | ((with_reducible refine wpList_store_new 85 (.tmp 8) (.tmp 20) b4 (AskD.cells ⟨0, 0⟩) (AskD.cells ⟨0, 0⟩) 85 B4 rfl rsizeAsk (AskD.cells_one _) ?hgd ?ho ?hx ?hy ?_); (case hgd => rfl); (case ho => rfl); (case hx => rfl); (case hy => rfl); (intro w5 B5 o5)))
      (try simp only [Exit.inBlock, Exit.then]); refine bodyPost_ret (results_cell_ask (x := ⟨0, 0⟩) rfl _ _ (fun i u hu => B5.cell hu) rfl) rfl ⟨rfl, o5.below (e4.mono l4) l4⟩
    · have hp : placeS f o l i = (⟨f + i / l, i % l⟩, 0) := by unfold placeS; rw [if_pos (by omega)]
      rw [hp]
      have hr : rightB f o l = true := by
        cases hq : rightB f o l with
        | true => rfl
        | false => unfold totalS at ht; rw [hq] at ht; simp at ht; omega
      obtain ⟨h1, h2, h3, h4, h5, h6⟩ := rightB_iff.1 hr
      have h0' : 0 ≤ i := by omega
      have h7 : i < t := by omega
      have h8 : i ≤ 4194304 := by omega
      have q0 : 0 ≤ i / l := Int.ediv_nonneg (by omega) (by omega)
      have q1 : i / l ≤ i := Int.ediv_le_self _ (by omega)
      have hl0 : l ≠ 0 := by omega
      clear hp ht tb hr h6
      go_enter Try.func73, Try.ntmps73
      go_wp2_with (first | ((with_reducible refine wpList_alloc_new 85 (AskD.cells ⟨0, 0⟩) zeroAsk (some 8) ?hgd ?ho ?hd ?_); (case hgd => rfl); (case ho => rfl); (case hd => rfl); (intro b4 w4 l4 B4 e4 z4)))
      refine (total38_walk f o l _).mono ?_
      rintro e w1 ⟨rfl, rfl⟩
      rw [← HT.out]
      have qw : IntKind.i64.wrap (f + i / l) = f + i / l := IntWalk.i64_in _ (by omega)
      have qd : i.tdiv l = i / l := Int.tdiv_eq_ediv_of_nonneg (by omega)
      have qm : i.tmod l = i % l := Int.tmod_eq_emod_of_nonneg (by omega)
      have qr : IntKind.i64.wrap (i / l) = i / l := IntWalk.i64_in _ (by omega)
      go_wp2_with fail
      refine wp_region_still_tail_drew 9 (by kernel_rfl) (by kernel_rfl) ?_
      simp only [List.take_succ_cons, List.take_zero, List.drop_succ_cons, List.drop_zero]
      iterate 9 still_step
      refine wpStill_nil ?_
      have B4' := B4.drew
      go_wp2_with (first | ((with_reducible refine wpList_store_new 85 (.tmp 8) (.tmp 29) b4 (AskD.cells ⟨0, 0⟩) (AskD.cells ⟨f + i / l, i % l⟩) 85 B4' rfl rsizeAsk (AskD.cells_one _) ?hgd ?ho ?hx ?hy ?_); (case hgd => rfl); (case ho => rfl); (case hx => rfl); (case hy => rfl); (intro w5 B5 o5)))
      (try simp only [Exit.inBlock, Exit.then]); refine bodyPost_ret (results_cell_ask (x := ⟨f + i / l, i % l⟩) rfl _ _ (fun i u hu => B5.cell hu) rfl) rfl ⟨rfl, o5.below (e4.mono l4).drew l4⟩
end Go.Proofs.Ytacoibiafpdoaaa
