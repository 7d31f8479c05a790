/- Walks of chain.Tag, Begin, Follow, and the documents' Tag (chapter 20). -/
import Derived.Test.YtacoibiafpdoaaaChain1
import Derived.Test.YtacoibiafpdoaaaEvolve2
import Derived.Test.YtacoibiafpdoaaaLaw03
namespace Go.Proofs.Ytacoibiafpdoaaa
open Go Go.RowKit
set_option linter.unusedVariables false

/-- A record's tag. -/
def tagC (key was : List UInt8) (seq : Int) (r : Rec) : List UInt8 := mac (madeL key [109, 97, 99] []) (saidC was seq r)
theorem tagC_length (key was : List UInt8) (seq : Int) (r : Rec) : (tagC key was seq r).length = 32 := mac_length _ _

set_option maxHeartbeats 1000000 in
theorem ctag_walk (key was : ByteArray) (seq : Int) (r : Rec) (w : World) (hroot : r.root.size ≤ 1048576) (hname : r.name.size ≤ 1048576) (hf : Fits r.epoch) (hs : Fits seq) :
    Calls Try.prog 85 #[.string key, .string was, .int .i64 seq, r.v] w fun e w' => Ends (key.size = 32 ∧ saidCOk was seq r) (tagC key.data.toList was.data.toList seq r) 2 e ∧ Below w.heap.size w w' := by
  go_enter Try.func85, Try.ntmps85
  go_wp2_with ((with_reducible refine wpList_box_new 32 (.tmp 3) r.cells (some 7) ?hgd ?ho ?hd ?hx ?_); (case hgd => rfl); (case ho => rfl); (case hd => rfl); (case hx => rfl); (intro b w0 l0 B0 e0 z0))
  refine (macKey_walk key _).mono ?_
  rintro e w1 ⟨⟨c1, q, rfl, tq⟩ | ⟨c1, rfl⟩, hb1⟩
  · have C1 := Lib.hid c1; clear c1
    have sq : q.size ≤ 32 := by rw [tq.size, madeL_length]; omega
    have HB := Lib.hid (B0.below hb1 z0); clear B0
    go_wp2_with ((with_reducible refine wpList_load_blk 32 (.tmp 7) b r.cells 32 _ HB.out Try.underlying32 rfl rsizeRec ?hgd ?ho ?hx ?_); (case hgd => rfl); (case ho => rfl); (case hx => rfl))
    refine (csaid_walk was seq r _ hroot hname hf hs).mono ?_
    rintro e w2 ⟨⟨c2, p, rfl, tp⟩ | ⟨c2, rfl⟩, hb2⟩
    · have sp : p.size ≤ 121 := by
        rw [tp.size]; unfold saidC
        rw [List.length_append, List.length_append, beBytes_length]
        have := recPut_length c2.2.2.2
        have e1 : was.data.toList.length = was.size := rfl
        have := c2.1
        omega
      have C2 := Lib.hid c2; clear c2
      go_wp2_with fail
      refine (mac_walk q p _ (by omega) (by omega)).mono ?_
      rintro e w3 ⟨t, rfl, tt, hb3⟩
      go_wp2_with fail
      go_ret2
      refine ⟨.inl ⟨⟨C1.out, C2.out⟩, t, rfl, tt.cast ?_⟩, (e0.mono l0).trans ((bt hb1 (bt hb2 hb3)).mono (by omega))⟩
      rw [show q.data.toList = _ from tq, show p.data.toList = _ from tp]; rfl
    · have C2 := Lib.hid c2; clear c2
      go_wp2_with fail
      go_ret2
      exact ⟨.inr ⟨fun h => C2.out h.2, rfl⟩, (e0.mono l0).trans ((bt hb1 hb2).mono (by omega))⟩
  · have C1 := Lib.hid c1; clear c1
    go_wp2_with fail
    go_ret2
    exact ⟨.inr ⟨fun h => C1.out h.1, rfl⟩, (e0.mono l0).trans (hb1.mono (by omega))⟩

set_option maxHeartbeats 1000000 in
theorem rctag_walk (key was : ByteArray) (seq : Int) (r : Rec) (w : World) (hroot : r.root.size ≤ 1048576) (hname : r.name.size ≤ 1048576) (hf : Fits r.epoch) (hs : Fits seq) (hws0 : was.size ≤ 1048576) :
    Calls Try.prog 86 #[.string key, .string was, .int .i64 seq, r.v] w fun e w' => EndsB (key.size = 32 ∧ saidCOk was seq r) (tagC key.data.toList was.data.toList seq r) e ∧ Below w.heap.size w w' := by
  go_enter Try.func86, Try.ntmps86
  go_wp2_with ((with_reducible refine wpList_box_new 32 (.tmp 3) r.cells (some 7) ?hgd ?ho ?hd ?hx ?_); (case hgd => rfl); (case ho => rfl); (case hd => rfl); (case hx => rfl); (intro b w0 l0 B0 e0 z0))
  refine (rmade_walk key macB _ [] _ (IntRow.nil _) (fun j x h => by simp at h) (by simp)).mono ?_
  rintro e w1 ⟨he, hb1⟩
  have HB := Lib.hid (B0.below hb1 z0); clear B0
  rcases he with ⟨c1, q, rfl, tq⟩ | ⟨c1, rfl⟩
  all_goals
    have C1 := Lib.hid c1; clear c1
    try (have sq : q.size ≤ 32 := by rw [tq.size, madeL_length]; omega)
    go_wp2_with ((with_reducible refine wpList_load_blk 32 (.tmp 7) b r.cells 32 _ HB.out Try.underlying32 rfl rsizeRec ?hgd ?ho ?hx ?_); (case hgd => rfl); (case ho => rfl); (case hx => rfl))
    refine (rcsaid_walk was seq r _ hroot hname hf hs hws0).mono ?_
    rintro e w2 ⟨⟨c2, p, rfl, tp⟩ | ⟨c2, rfl⟩, hb2⟩
  · have sp : p.size ≤ 121 := by
      rw [tp.size]; unfold saidC
      rw [List.length_append, List.length_append, beBytes_length]
      have := recPut_length c2.2.2.2
      have e1 : was.data.toList.length = was.size := rfl
      have := c2.1
      omega
    have C2 := Lib.hid c2; clear c2
    go_wp2_with fail
    refine (rmac_walk q p _ (by omega) (by omega)).mono ?_
    rintro e w3 ⟨t, rfl, tt, hb3⟩
    go_wp2_with fail
    go_ret2
    refine ⟨.inl ⟨⟨C1.out.1, C2.out⟩, t, rfl, tt.cast ?_⟩, (e0.mono l0).trans ((bt hb1 (bt hb2 hb3)).mono (by omega))⟩
    rw [show q.data.toList = _ from tq, show p.data.toList = _ from tp]; rfl
  · have C2 := Lib.hid c2; clear c2
    go_wp2_with fail
    go_ret2
    exact ⟨.inr ⟨fun h => C2.out h.2, rfl⟩, (e0.mono l0).trans ((bt hb1 hb2).mono (by omega))⟩
  · have C2 := Lib.hid c2; clear c2
    go_wp2_with fail
    go_ret2
    exact ⟨.inr ⟨fun h => C1.out ⟨h.1, by decide⟩, rfl⟩, (e0.mono l0).trans ((bt hb1 hb2).mono (by omega))⟩
  · have C2 := Lib.hid c2; clear c2
    go_wp2_with fail
    go_ret2
    exact ⟨.inr ⟨fun h => C2.out h.2, rfl⟩, (e0.mono l0).trans ((bt hb1 hb2).mono (by omega))⟩

theorem begin_walk (w : World) :
    Calls Try.prog 113 #[] w fun e w' => ∃ r, e = .returned (.string r) ∧ Txt r (List.replicate 32 0) ∧ Below w.heap.size w w' := by
  go_enter Try.func113, Try.ntmps113
  go_wp2_with fail
  refine (repeat0 32 _ (by omega)).mono ?_
  rintro e w1 ⟨r, rfl, tr, hb1⟩
  go_wp2_with fail
  go_ret
  exact ⟨r, rfl, tr, hb1⟩

/-- A row of records. -/
def RecRow (w : World) (v : Value) (l : List Rec) : Prop :=
  (l = [] ∧ ∃ (p : Option Addr) (c : Nat), v = .slice p 0 c) ∨
  ∃ g o c, v = .slice (some ⟨g, o, none⟩) l.length c ∧ g < w.heap.size ∧ ∀ (j : Nat) (r : Rec), l[j]? = some r → w.rangeAt g (o + j * 8) r.cells

theorem rec_cells {w : World} {g o : Nat} {r : Rec} (h : w.rangeAt g o r.cells) :
    w.cell? ⟨g, o, none⟩ = some (.int .i64 r.kind) ∧ w.cell? ⟨g, o + 1, none⟩ = some (.int .i64 r.epoch) ∧ w.cell? ⟨g, o + 2, none⟩ = some (.int .i64 r.time) ∧ w.cell? ⟨g, o + 3, none⟩ = some (.int .i64 r.count) ∧
    w.cell? ⟨g, o + 4, none⟩ = some (.int .i64 r.target) ∧ w.cell? ⟨g, o + 5, none⟩ = some (.int .i64 r.till) ∧ w.cell? ⟨g, o + 6, none⟩ = some (.string r.root) ∧ w.cell? ⟨g, o + 7, none⟩ = some (.string r.name) :=
  ⟨h 0 _ rfl, h 1 _ rfl, h 2 _ rfl, h 3 _ rfl, h 4 _ rfl, h 5 _ rfl, h 6 _ rfl, h 7 _ rfl⟩

/-- Do records follow on each other? The open epoch, the place, the error. -/
def followGo (epoch now : Int) (i : Nat) : List Rec → Int × Nat × Int
  | [] => (epoch, i, 0)
  | r :: l => if recOk r = true ∧ r.epoch = epoch ∧ now ≤ r.time then followGo (if r.kind = 1 then epoch + 1 else epoch) r.time (i + 1) l else (epoch, i, 16)

set_option maxRecDepth 100000 in
set_option maxHeartbeats 2000000 in
theorem follow_walk (first : Int) (v : Value) (l : List Rec) (w : World) (h : RecRow w v l) (hl : l.length ≤ 1048576) (hr : ∀ (j : Nat) (r : Rec), l[j]? = some r → r.name.size ≤ 1048576 ∧ Fits r.epoch) (h0 : 0 ≤ first) (h1 : first ≤ 4294967295) :
    Calls Try.prog 112 #[.int .i64 first, v] w fun e w' => e = .returned (.tuple #[.int .i64 (followGo first 0 0 l).1, .int .i64 ((followGo first 0 0 l).2.1 : Nat), .int .i64 (followGo first 0 0 l).2.2]) ∧ Below w.heap.size w w' := by
  rcases h with ⟨rfl, p, c, rfl⟩ | ⟨g, o, c, rfl, hg, hc⟩
  · go_enter Try.func112, Try.ntmps112
    go_wp2_with fail
    go_loop [7, 20] (fun e i => e = .int .i64 first ∧ i = .int .i64 0) (fun _ _ => 0)
    case atStart => exact ⟨rfl, rfl⟩
    case round =>
      obtain ⟨rfl, rfl⟩ := hrel
      go_wp2_with fail
      go_ret3
      exact ⟨rfl, Below.refl _ _⟩
  have HC := Lib.hid hc; clear hc
  have HR := Lib.hid hr; clear hr
  obtain ⟨n, Hn⟩ : ∃ n, Hid (n = l.length) := ⟨_, rfl⟩
  rw [← Hn.out]
  rw [← Hn.out] at hl
  go_enter Try.func112, Try.ntmps112
  go_wp2_with fail
  go_loopw [7, 8, 20] (fun ve vn vi wr => ∃ (k : Nat) (ep now : Int), k ≤ n ∧ vi = .int .i64 k ∧ ve = .int .i64 ep ∧ vn = .int .i64 now ∧ 0 ≤ ep ∧ ep ≤ 4294967295 + k ∧ followGo first 0 0 l = followGo ep now k (l.drop k) ∧ Below w.heap.size w wr) (fun _ _ vi _ => n - (intOf vi).toNat)
  case atStart => exact ⟨0, first, 0, by omega, rfl, rfl, rfl, h0, by omega, by simp, Below.refl _ _⟩
  case round =>
    obtain ⟨k, ep, now, hk, rfl, rfl, rfl, he0, he1, hfo, hbel⟩ := hrel
    have HF := Lib.hid hfo; clear hfo
    by_cases hlt : k < n
    · have hlt' : (k : Int) < n := by omega
      obtain ⟨r, hrk⟩ : ∃ r, l[k]? = some r := ⟨_, List.getElem?_eq_getElem (by rw [← Hn.out]; exact hlt)⟩
      have hrange : wr.rangeAt g (o + k * 8) r.cells := fun j u hu => by rw [hbel.cell (by show g < w.heap.size; exact hg)]; exact HC.out k r hrk j u hu
      have hdrop : l.drop k = r :: l.drop (k + 1) := by
        obtain ⟨h1, h2⟩ := List.getElem?_eq_some_iff.1 hrk
        rw [← h2, List.drop_eq_getElem_cons h1]
      have hrr := HR.out k r hrk
      have HRR := Lib.hid hrr; clear hrr
      have HD := Lib.hid hdrop; clear hdrop
      obtain ⟨kind, epoch, time, count, target, till, root, name⟩ := r
      obtain ⟨c0, c1, c2, c3, c4, c5, c6, c7⟩ := rec_cells hrange
      clear hrange hrk
      go_wp2_with fail
      refine (check_walk ⟨kind, epoch, time, count, target, till, root, name⟩ _ (by have := HRR.out.1; simp at this ⊢; omega) HRR.out.2).mono ?_
      rintro e w2 ⟨rfl, hb2⟩
      have hz : wr.heap.size < w2.heap.size := by have := hb2.size; simp at this; omega
      have q0 : w2.cell? ⟨wr.heap.size, 0, none⟩ = some (.int .i64 kind) := by rw [hb2.cell (by simp)]; simp
      have q1 : w2.cell? ⟨wr.heap.size, 1, none⟩ = some (.int .i64 epoch) := by rw [hb2.cell (by simp)]; simp
      have q2 : w2.cell? ⟨wr.heap.size, 2, none⟩ = some (.int .i64 time) := by rw [hb2.cell (by simp)]; simp
      have hbel2 : Below w.heap.size w w2 := (hbel.alloc hbel.size _).trans (hb2.mono (by have := hbel.size; simp; omega))
      clear hb2 c0 c1 c2 c3 c4 c5 c6 c7
      by_cases hok : recOk ⟨kind, epoch, time, count, target, till, root, name⟩ = true ∧ epoch = ep ∧ now ≤ time
      · obtain ⟨k1, rfl, k3⟩ := hok
        have hgo : followGo epoch now k (l.drop k) = followGo (if kind = 1 then epoch + 1 else epoch) time (k + 1) (l.drop (k + 1)) := by
          rw [HD.out]
          show (if _ then _ else _) = _
          rw [if_pos ⟨k1, rfl, k3⟩]
        have HG := Lib.hid hgo; clear hgo
        rw [chkI_yes k1]
        clear k1
        by_cases k1 : kind = 1
        · subst k1
          go_wp2_with fail
          go_roundw
          case rel => exact ⟨k + 1, epoch + 1, time, by omega, by go_num, rfl, rfl, by omega, by omega, by rw [HF.out, HG.out]; rfl, hbel2⟩
          case measure => simp [intOf]; omega
        · go_wp2_with fail
          go_roundw
          case rel => exact ⟨k + 1, epoch, time, by omega, by go_num, rfl, rfl, by omega, by omega, by rw [HF.out, HG.out, if_neg k1], hbel2⟩
          case measure => simp [intOf]; omega
      · have hgo : followGo ep now k (l.drop k) = (ep, k, 16) := by
          rw [HD.out]
          show (if _ then _ else _) = _
          rw [if_neg hok]
        have HG := Lib.hid hgo; clear hgo
        by_cases k1 : recOk ⟨kind, epoch, time, count, target, till, root, name⟩ = true
        · rw [chkI_yes k1]
          by_cases k2 : epoch = ep
          · have k3 : time < now := by
              apply Decidable.byContradiction
              intro hh
              exact hok ⟨k1, k2, by omega⟩
            subst k2
            clear hok k1
            go_wp2_with fail
            go_ret3
            exact ⟨by rw [HF.out, HG.out]; rfl, hbel2⟩
          · clear hok k1
            go_wp2_with fail
            go_ret3
            exact ⟨by rw [HF.out, HG.out]; rfl, hbel2⟩
        · rw [chkI_no (by simpa using k1)]
          clear hok k1
          go_wp2_with fail
          go_ret3
          exact ⟨by rw [HF.out, HG.out]; rfl, hbel2⟩
    · obtain rfl : k = n := by omega
      go_wp2_with fail
      go_ret3
      refine ⟨?_, hbel⟩
      rw [HF.out, List.drop_of_length_le (by rw [← Hn.out]; omega)]
      rfl
end Go.Proofs.Ytacoibiafpdoaaa
