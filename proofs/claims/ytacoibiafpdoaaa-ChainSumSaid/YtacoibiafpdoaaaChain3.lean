/- Walks of sha.Sum of nothing, chain.Sum; the example of chapter 20. -/
import Derived.Test.YtacoibiafpdoaaaChain2
namespace Go.Proofs.Ytacoibiafpdoaaa
open Go Go.RowKit
set_option linter.unusedVariables false

set_option maxRecDepth 100000 in
theorem sum_none (p : Option Addr) (c : Nat) (w : World) :
    Calls Try.prog 39 #[.slice p 0 c] w fun e w' => ∃ r, e = .returned (.string r) ∧ Txt r (sha []) ∧ Below w.heap.size w w' := by
  go_enter Try.func39, Try.ntmps39
  go_wp2_with fail
  refine (new_walk _).mono ?_
  rintro e w1 ⟨b, rfl, l1, B1, hb1, z1⟩
  have h0 : Hid (HashAt w1 b []) := ⟨⟨#[]⟩, rfl, B1⟩
  clear B1
  go_wp2_with fail
  go_loopw [9] (fun i wr => i = .int .i64 0 ∧ w1 = wr) (fun i _ => 0)
  case atStart => exact ⟨rfl, rfl⟩
  case round =>
    obtain ⟨rfl, rfl⟩ := hrel
    go_wp2_with fail
    refine (hsum_walk b [] w1 h0.out (by simp)).mono ?_
    rintro e w2 ⟨r, rfl, tr, hb2⟩
    go_wp2_with fail
    go_ret
    exact ⟨r, rfl, tr, hb1.trans (hb2.mono hb1.size)⟩

/-- A sealed record. -/
structure Sld where
  r : Rec
  tag : ByteArray
def Sld.cells (x : Sld) : List Value := [.int .i64 x.r.kind, .int .i64 x.r.epoch, .int .i64 x.r.time, .int .i64 x.r.count, .int .i64 x.r.target, .int .i64 x.r.till, .string x.r.root, .string x.r.name, .string x.tag]
/-- A row of sealed records. -/
def SldRow (w : World) (v : Value) (l : List Sld) : Prop :=
  (l = [] ∧ ∃ (p : Option Addr) (c : Nat), v = .slice p 0 c) ∨
  ∃ g o c, v = .slice (some ⟨g, o, none⟩) l.length c ∧ l.length ≤ c ∧ g < w.heap.size ∧ ∀ (j : Nat) (x : Sld), l[j]? = some x → w.rangeAt g (o + j * 9) x.cells
theorem SldRow.below {w w' : World} {v : Value} {l : List Sld} (h : SldRow w v l) {B : Nat} (hb : Below B w w') (hB : w.heap.size ≤ B) : SldRow w' v l := by
  refine h.imp id ?_
  rintro ⟨g, o, c, h1, hc, h2, h3⟩
  exact ⟨g, o, c, h1, hc, by have := hb.size; omega, fun j x hx i u hu => by rw [hb.cell (by show g < B; omega)]; exact h3 j x hx i u hu⟩
theorem SldRow.shape {w : World} {v : Value} {l : List Sld} (h : SldRow w v l) : ∃ (p : Option Addr) (c : Nat), v = .slice p l.length c := by
  rcases h with ⟨rfl, p, c, rfl⟩ | ⟨g, o, c, rfl, _⟩
  · exact ⟨p, c, rfl⟩
  · exact ⟨_, c, rfl⟩
theorem sld_cells {w : World} {g o : Nat} {x : Sld} (h : w.rangeAt g o x.cells) :
    w.cell? ⟨g, o, none⟩ = some (.int .i64 x.r.kind) ∧ w.cell? ⟨g, o + 1, none⟩ = some (.int .i64 x.r.epoch) ∧ w.cell? ⟨g, o + 2, none⟩ = some (.int .i64 x.r.time) ∧ w.cell? ⟨g, o + 3, none⟩ = some (.int .i64 x.r.count) ∧
    w.cell? ⟨g, o + 4, none⟩ = some (.int .i64 x.r.target) ∧ w.cell? ⟨g, o + 5, none⟩ = some (.int .i64 x.r.till) ∧ w.cell? ⟨g, o + 6, none⟩ = some (.string x.r.root) ∧ w.cell? ⟨g, o + 7, none⟩ = some (.string x.r.name) ∧ w.cell? ⟨g, o + 8, none⟩ = some (.string x.tag) :=
  ⟨h 0 _ rfl, h 1 _ rfl, h 2 _ rfl, h 3 _ rfl, h 4 _ rfl, h 5 _ rfl, h 6 _ rfl, h 7 _ rfl, h 8 _ rfl⟩

/-- All tags in one. -/
def sumT (l : List Sld) : List UInt8 := l.foldl (fun s x => sha (s ++ x.tag.data.toList)) (sha [])
theorem sumT_length (l : List Sld) : (sumT l).length = 32 := by
  rcases List.eq_nil_or_concat l with rfl | ⟨l, x, rfl⟩
  · exact sha_length _
  · simp [sumT, sha_length]
theorem sumT_take (l : List Sld) (k : Nat) (x : Sld) (h : l[k]? = some x) : sumT (l.take (k + 1)) = sha (sumT (l.take k) ++ x.tag.data.toList) := by
  obtain ⟨h1, rfl⟩ := List.getElem?_eq_some_iff.1 h
  unfold sumT
  rw [List.take_succ_eq_append_getElem h1, List.foldl_append]
  rfl

theorem sum_two_at (s t : ByteArray) (w : World) (g c : Nat) (hg : g = w.heap.size) (hn : s.size + t.size ≤ 536870912) :
    Calls Try.prog 39 #[.slice (some ⟨g, 0, none⟩) 2 c] (w.alloc (.cells #[.string s, .string t] 9)) fun e w' => ∃ r, e = .returned (.string r) ∧ Txt r (sha (s.data.toList ++ t.data.toList)) ∧ Below w.heap.size w w' := by
  subst hg
  exact sum_two s t w c hn

set_option maxRecDepth 100000 in
set_option maxHeartbeats 1000000 in
theorem csum_walk (v : Value) (l : List Sld) (w : World) (h : SldRow w v l) (hl : l.length ≤ 1048576) (ht : ∀ (j : Nat) (x : Sld), l[j]? = some x → x.tag.size ≤ 1048576) :
    Calls Try.prog 59 #[v] w fun e w' => ∃ r, e = .returned (.string r) ∧ Txt r (sumT l) ∧ Below w.heap.size w w' := by
  rcases h with ⟨rfl, p, c, rfl⟩ | ⟨g, o, c, rfl, _, hg, hc⟩
  · go_enter Try.func59, Try.ntmps59
    go_wp2_with fail
    refine (sum_none none 0 _).mono ?_
    rintro e w1 ⟨r, rfl, tr, hb1⟩
    go_wp2_with fail
    go_loopw [3, 9] (fun s i wr => s = .string r ∧ i = .int .i64 0 ∧ w1 = wr) (fun _ _ _ => 0)
    case atStart => exact ⟨rfl, rfl, rfl⟩
    case round =>
      obtain ⟨rfl, rfl, rfl⟩ := hrel
      go_wp2_with fail
      go_ret
      exact ⟨r, rfl, tr, hb1⟩
  have HC := Lib.hid hc; clear hc
  have HT := Lib.hid ht; clear ht
  obtain ⟨n, Hn⟩ : ∃ n, Hid (n = l.length) := ⟨_, rfl⟩
  rw [← Hn.out]
  rw [← Hn.out] at hl
  go_enter Try.func59, Try.ntmps59
  go_wp2_with fail
  refine (sum_none none 0 _).mono ?_
  rintro e w1 ⟨r, rfl, tr, hb1⟩
  go_wp2_with fail
  go_loopw [3, 9] (fun s i wr => ∃ (k : Nat) (q : ByteArray), k ≤ n ∧ s = .string q ∧ i = .int .i64 k ∧ Txt q (sumT (l.take k)) ∧ Below w.heap.size w wr) (fun _ i _ => n - (intOf i).toNat)
  case atStart => exact ⟨0, r, by omega, rfl, rfl, tr, hb1⟩
  case round =>
    clear tr hb1
    obtain ⟨k, q, hk, rfl, rfl, tq, hbel⟩ := hrel
    have sq : q.size ≤ 32 := by rw [tq.size, sumT_length]; omega
    by_cases hlt : k < n
    · have hlt' : (k : Int) < n := by omega
      obtain ⟨x, hxk⟩ : ∃ r, l[k]? = some r := ⟨_, List.getElem?_eq_getElem (by rw [← Hn.out]; exact hlt)⟩
      have hrange : wr.rangeAt g (o + k * 9) x.cells := fun j u hu => by rw [hbel.cell (by show g < w.heap.size; exact hg)]; exact HC.out k x hxk j u hu
      have hsz := HT.out k x hxk
      have hs := sumT_take l k x hxk
      have HS := Lib.hid hs; clear hs hxk
      obtain ⟨⟨kind, epoch, time, count, target, till, root, name⟩, tag⟩ := x
      obtain ⟨c0, c1, c2, c3, c4, c5, c6, c7, c8⟩ := sld_cells hrange
      clear hrange
      go_wp2_with fail
      clear c0 c1 c2 c3 c4 c5 c6 c7 c8
      refine (sum_two_at q tag _ _ _ ?_ (by have : tag.size ≤ 1048576 := hsz; omega)).mono ?_
      · simp
      rintro e w2 ⟨r2, rfl, tr2, hb2⟩
      go_wp2_with fail
      go_roundw
      case rel =>
        refine ⟨k + 1, r2, by omega, rfl, by go_num, ?_, (hbel.alloc hbel.size _).trans (hb2.mono (by have := hbel.size; simp; omega))⟩
        rw [HS.out]
        exact tr2.cast (by rw [show q.data.toList = _ from tq])
      case measure => simp [intOf]; omega
    · obtain rfl : k = n := by omega
      go_wp2_with fail
      go_ret
      exact ⟨q, rfl, tq.cast (by rw [Hn.out, List.take_length]), hbel⟩

def closeRec (r : ByteArray) : Rec := ⟨1, 5, 0, 0, 0, 0, r, ⟨#[]⟩⟩

set_option maxRecDepth 100000 in
set_option maxHeartbeats 1000000 in
theorem alive20 (w : World) :
    Calls Try.prog 58 #[] w fun e w' => e = .returned (.bool true) ∧ Below w.heap.size w w' := by
  go_enter Try.func58, Try.ntmps58
  go_wp2_with fail
  refine (noughts_walk 32 _ (by omega) (by omega)).mono ?_
  rintro e w1 ⟨r, rfl, tr, hb1⟩
  go_wp2_with fail
  have B1 := Blk.new w1 (closeRec r).cells 32
  have hrow : RecRow (w1.alloc (.cells (closeRec r).cells.toArray 32)) (.slice (some ⟨w1.heap.size, 0, none⟩) 1 1) [closeRec r] := by
    refine .inr ⟨_, _, _, rfl, by simp, fun j x hx => ?_⟩
    cases j with
    | zero => simp at hx; subst hx; exact B1.range
    | succ j => simp at hx
  have hrs : r.size = 32 := by rw [tr.size]; rfl
  have hok : recOk (closeRec r) = true := by simp [recOk, recKind, closeRec, hrs]; rfl
  have hfo : followGo 5 0 0 [closeRec r] = (6, 1, 0) := by
    show (if _ then _ else _) = _
    rw [if_pos ⟨hok, rfl, Int.le_refl 0⟩]
    rfl
  refine (follow_walk 5 _ [closeRec r] _ hrow (by simp) ?_ (by omega) (by omega)).mono ?_
  · intro j x hx
    cases j with
    | zero => simp at hx; subst hx; exact ⟨by show (0 : Nat) ≤ _; omega, by show Fits 5; unfold Fits; omega⟩
    | succ j => simp at hx
  rintro e w2 ⟨rfl, hb2⟩
  rw [hfo]
  clear hok hfo hrow B1 hrs
  go_wp2_with fail
  refine (begin_walk _).mono ?_
  rintro e w3 ⟨p, rfl, tp, hb3⟩
  go_wp2_with fail
  refine (noughts_walk 32 _ (by omega) (by omega)).mono ?_
  rintro e w4 ⟨q, rfl, tq, hb4⟩
  have e1 : (p.toList == q.toList) = true := tp.same tq rfl
  go_wp2_with fail
  refine (csum_walk _ [] _ (.inl ⟨rfl, _, _, rfl⟩) (by simp) (fun j x h => by simp at h)).mono ?_
  rintro e w5 ⟨t, rfl, tt, hb5⟩
  have e2 : (t.size : Int) = 32 := by rw [tt.size, sumT_length]; rfl
  go_wp2_with fail
  go_ret
  exact ⟨rfl, bt hb1 (((Below.refl _ _).alloc (Nat.le_refl _) _).trans ((bt hb2 (bt hb3 (bt hb4 hb5))).mono (by simp)))⟩
end Go.Proofs.Ytacoibiafpdoaaa
