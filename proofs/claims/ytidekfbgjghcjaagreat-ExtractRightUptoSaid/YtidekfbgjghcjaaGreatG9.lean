/- Walks of receipt.may, Make, Of and the documents' Few, Right, Make, Last (chapters 19, 20, 21). Walks of receipt.Make and the documents' Make (chapter 21). Walks of receipt.Of, Forge, All (chapter 21). Walk of receipt.Forge (chapter 21). The equality of two receipts, of two sealed records, of two places as one step. What a statement's parameters hand to its walk: a receipt by value. -/
import Derived.Test.YtidekfbgjghcjaaGreatWChainSum
import Derived.Test.YtidekfbgjghcjaaGreatG8
import Derived.Deep.RegionHeld3
import Derived.Deep.RegionWith
import Derived.Deep.MidRow
import Derived.Laws.ResultCell
import Derived.Deep.QuietTactic
import Derived.BigQuiet
import Derived.Test.YtidekfbgjghcjaaGreatG1
namespace Go.Proofs.YtidekfbgjghcjaaGreat
set_option linter.unusedSimpArgs false
set_option linter.unusedVariables false
open Go Go.RowKit

structure Rcp where
  seq : Int
  r : Rec
  was : ByteArray
  tag : ByteArray
def Rcp.cells (x : Rcp) : List Value := [.int .i64 x.seq, .int .i64 x.r.kind, .int .i64 x.r.epoch, .int .i64 x.r.time, .int .i64 x.r.count, .int .i64 x.r.target, .int .i64 x.r.till, .string x.r.root, .string x.r.name, .string x.was, .string x.tag]
def Rcp.v (x : Rcp) : Value := .agg #[.int .i64 x.seq, .int .i64 x.r.kind, .int .i64 x.r.epoch, .int .i64 x.r.time, .int .i64 x.r.count, .int .i64 x.r.target, .int .i64 x.r.till, .string x.r.root, .string x.r.name, .string x.was, .string x.tag]
def Rcp.zero : Rcp := ⟨0, Rec.zero, ⟨#[]⟩, ⟨#[]⟩⟩
def rcpOk (x : Rcp) : Bool := decide (0 ≤ x.seq) && decide (x.seq ≤ 4294967295) && recOk x.r && decide (x.r.kind = 1) && decide ((x.was.size : Int) = 32) && decide ((x.tag.size : Int) = 32)
def lastB (l : List Sld) : ByteArray := match l.getLast? with | none => ⟨(List.replicate 32 (0 : UInt8)).toArray⟩ | some x => x.tag
theorem Txt.eqB {p : ByteArray} {l : List UInt8} (h : Txt p l) : p = ⟨l.toArray⟩ := by
  have h1 : p.data.toList = l := h
  rw [← h1]
theorem rsizeRcp {x : Rcp} : (Tryz.prog.info? 37).map (·.size) = some x.cells.length := by kernel_rfl
theorem ret_s {a b : ByteArray} (h : a = b) : Ending.returned (.string a) = .returned (.string b) := by rw [h]
structure RcpAt (w : World) (b : Nat) (x : Rcp) : Prop where
  lt : b < w.heap.size
  at_ : ∀ (i : Nat) (u : Value), x.cells[i]? = some u → w.cell? ⟨b, i, none⟩ = some u
theorem RcpAt.below {w w' : World} {b : Nat} {x : Rcp} (h : RcpAt w b x) {B : Nat} (hb : Below B w w') (hB : b < B) : RcpAt w' b x :=
  ⟨by have := hb.size; have := h.lt; omega, fun i u hu => by rw [hb.cell (by exact hB)]; exact h.at_ i u hu⟩
theorem RcpAt.blk {w : World} {b : Nat} {x : Rcp} {t : TypeId} (h : Blk w b x.cells t) : RcpAt w b x := ⟨h.lt, fun i u hu => h.cell hu⟩
theorem RcpAt.cells_ {w : World} {b : Nat} {x : Rcp} (h : RcpAt w b x) :
    w.cell? ⟨b, 0, none⟩ = some (.int .i64 x.seq) ∧ w.cell? ⟨b, 1, none⟩ = some (.int .i64 x.r.kind) ∧ w.cell? ⟨b, 2, none⟩ = some (.int .i64 x.r.epoch) ∧ w.cell? ⟨b, 3, none⟩ = some (.int .i64 x.r.time) ∧ w.cell? ⟨b, 4, none⟩ = some (.int .i64 x.r.count) ∧
    w.cell? ⟨b, 5, none⟩ = some (.int .i64 x.r.target) ∧ w.cell? ⟨b, 6, none⟩ = some (.int .i64 x.r.till) ∧ w.cell? ⟨b, 7, none⟩ = some (.string x.r.root) ∧ w.cell? ⟨b, 8, none⟩ = some (.string x.r.name) ∧ w.cell? ⟨b, 9, none⟩ = some (.string x.was) ∧ w.cell? ⟨b, 10, none⟩ = some (.string x.tag) :=
  ⟨h.at_ 0 _ rfl, h.at_ 1 _ rfl, h.at_ 2 _ rfl, h.at_ 3 _ rfl, h.at_ 4 _ rfl, h.at_ 5 _ rfl, h.at_ 6 _ rfl, h.at_ 7 _ rfl, h.at_ 8 _ rfl, h.at_ 9 _ rfl, h.at_ 10 _ rfl⟩

set_option maxRecDepth 100000 in
set_option maxHeartbeats 2000000 in
theorem may21_walk (x : Rcp) (w : World) (hname : x.r.name.size ≤ 1073741824) (hf : Fits x.r.epoch) (hs : Fits x.seq) :
    Calls Tryz.prog 137 #[x.v] w fun e w' => e = .returned (.bool (rcpOk x)) ∧ Below w.heap.size w w' := by
  by_cases c1 : 0 ≤ x.seq ∧ x.seq ≤ 4294967295
  · have HC := Lib.hid c1; clear c1
    go_enter Tryz.func137, Tryz.ntmps137
    go_wp2_with ((with_reducible refine wpList_box_new 37 (.tmp 0) x.cells (some 1) ?hgd ?ho ?hd ?hx ?_); (case hgd | ho | hd | hx => rfl); (intro b w0 l0 B0 e0 z0; have R0 := Lib.hid (RcpAt.blk B0); obtain ⟨a0, a1, a2, a3, a4, a5, a6, a7, a8, a9, aA⟩ := R0.out.cells_))
    clear a0 a1 a2 a3 a4 a5 a6 a7 a8 a9 aA
    refine (oput4_walk x.seq _ hs).mono ?_
    rintro e w1 ⟨he, hb1⟩
    obtain ⟨q, rfl, tq⟩ := he.yes HC.out
    have R1 := Lib.hid (R0.out.below hb1 z0)
    obtain ⟨a0, a1, a2, a3, a4, a5, a6, a7, a8, a9, aA⟩ := R1.out.cells_
    go_wp2_with fail
    clear a0 a1 a2 a3 a4 a5 a6 a7 a8 a9 aA
    refine (check_walk x.r _ hname hf).mono ?_
    rintro e w2 ⟨rfl, hb2⟩
    have R2 := Lib.hid (R1.out.below hb2 R1.out.lt)
    obtain ⟨a0, a1, a2, a3, a4, a5, a6, a7, a8, a9, aA⟩ := R2.out.cells_
    have hbw := (e0.mono l0).trans ((bt hb1 hb2).mono (by have := e0.size; omega))
    cases hok : recOk x.r with
    | true =>
      rw [chkI_yes hok]
      have HK := Lib.hid hok; clear hok
      go_wp2_with fail
      all_goals (go_ret; refine ⟨ret_b ?_, hbw⟩; have k1 := HC.out; have k2 := HK.out; simp only [rcpOk, k2, Bool.and_true]; first | (simp [*]; done) | (simp [*]; intros; omega) | (rw [Bool.eq_iff_iff]; simp; omega))
    | false =>
      rw [chkI_no hok]
      have HK := Lib.hid hok; clear hok
      go_wp2_with fail
      all_goals (go_ret; refine ⟨ret_b ?_, hbw⟩; have k2 := HK.out; simp only [rcpOk, k2, Bool.and_false, Bool.false_and])
  · have HC := Lib.hid c1; clear c1
    go_enter Tryz.func137, Tryz.ntmps137
    go_wp2_with ((with_reducible refine wpList_box_new 37 (.tmp 0) x.cells (some 1) ?hgd ?ho ?hd ?hx ?_); (case hgd | ho | hd | hx => rfl); (intro b w0 l0 B0 e0 z0; have R0 := Lib.hid (RcpAt.blk B0); obtain ⟨a0, a1, a2, a3, a4, a5, a6, a7, a8, a9, aA⟩ := R0.out.cells_))
    clear a0 a1 a2 a3 a4 a5 a6 a7 a8 a9 aA
    refine (oput4_walk x.seq _ hs).mono ?_
    rintro e w1 ⟨he, hb1⟩
    obtain rfl := he.no HC.out
    have R1 := Lib.hid (R0.out.below hb1 z0)
    obtain ⟨a0, a1, a2, a3, a4, a5, a6, a7, a8, a9, aA⟩ := R1.out.cells_
    have hbw := (e0.mono l0).trans (hb1.mono (by have := e0.size; omega))
    go_wp2_with fail
    all_goals (go_ret; refine ⟨ret_b ?_, hbw⟩; have k1 := HC.out; simp only [rcpOk, ← Bool.decide_and, k1]; simp)

set_option maxRecDepth 100000 in
set_option maxHeartbeats 2000000 in
theorem right21_walk (x : Rcp) (w : World) :
    Calls Tryz.prog 73 #[x.v] w fun e w' => e = .returned (.bool (rcpOk x)) ∧ Below w.heap.size w w' := by
  go_enter Tryz.func73, Tryz.ntmps73
  go_wp2_with ((with_reducible refine wpList_box_new 37 (.tmp 0) x.cells (some 1) ?hgd ?ho ?hd ?hx ?_); (case hgd | ho | hd | hx => rfl); (intro b w0 l0 B0 e0 z0; have R0 := Lib.hid (RcpAt.blk B0); obtain ⟨a0, a1, a2, a3, a4, a5, a6, a7, a8, a9, aA⟩ := R0.out.cells_))
  clear a0 a1 a2 a3 a4 a5 a6 a7 a8 a9 aA
  refine (right_walk x.r _).mono ?_
  rintro e w1 ⟨rfl, hb1⟩
  have R1 := Lib.hid (R0.out.below hb1 z0)
  obtain ⟨a0, a1, a2, a3, a4, a5, a6, a7, a8, a9, aA⟩ := R1.out.cells_
  have hbw := (e0.mono l0).trans (hb1.mono (by have := e0.size; omega))
  cases hok : recOk x.r with
  | true =>
    have HK := Lib.hid hok; clear hok
    go_wp2_with fail
    all_goals (go_ret; refine ⟨ret_b ?_, hbw⟩; have k2 := HK.out; simp only [rcpOk, k2, Bool.and_true]; first | (simp [*]; done) | (simp [*]; intros; omega) | (rw [Bool.eq_iff_iff]; simp; omega))
  | false =>
    have HK := Lib.hid hok; clear hok
    go_wp2_with fail
    all_goals (go_ret; refine ⟨ret_b ?_, hbw⟩; have k2 := HK.out; simp only [rcpOk, k2, Bool.and_false, Bool.false_and])

def fewR (r : Rec) : Bool := decide ((r.root.size : Int) ≤ 5000) && decide ((r.name.size : Int) ≤ 5000)
def fewRcp (x : Rcp) : Bool := fewR x.r && decide ((x.was.size : Int) ≤ 1000) && decide ((x.tag.size : Int) ≤ 1000)
set_option maxRecDepth 100000 in
set_option maxHeartbeats 2000000 in
theorem few19_walk (r : Rec) (w : World) :
    Calls Tryz.prog 42 #[r.v] w fun e w' => e = .returned (.bool (fewR r)) ∧ Below w.heap.size w w' := by
  go_enter Tryz.func42, Tryz.ntmps42
  go_wp2_with ((with_reducible refine wpList_box_new 25 (.tmp 0) r.cells (some 1) ?hgd ?ho ?hd ?hx ?_); (case hgd | ho | hd | hx => rfl); (intro b w0 l0 B0 e0 z0; have R0 := RecAt.blk B0; have c6 := R0.c6; have c7 := R0.c7))
  all_goals (go_ret; refine ⟨ret_b ?_, e0.mono l0⟩; simp only [fewR]; simp [*]; try (intros; omega))
set_option maxRecDepth 100000 in
set_option maxHeartbeats 2000000 in
theorem few21_walk (x : Rcp) (w : World) :
    Calls Tryz.prog 24 #[x.v] w fun e w' => e = .returned (.bool (fewRcp x)) ∧ Below w.heap.size w w' := by
  go_enter Tryz.func24, Tryz.ntmps24
  go_wp2_with ((with_reducible refine wpList_box_new 37 (.tmp 0) x.cells (some 1) ?hgd ?ho ?hd ?hx ?_); (case hgd | ho | hd | hx => rfl); (intro b w0 l0 B0 e0 z0; have R0 := Lib.hid (RcpAt.blk B0); obtain ⟨a0, a1, a2, a3, a4, a5, a6, a7, a8, a9, aA⟩ := R0.out.cells_))
  clear a0 a1 a2 a3 a4 a5 a6 a7 a8 a9 aA
  refine (few19_walk x.r _).mono ?_
  rintro e w1 ⟨rfl, hb1⟩
  have R1 := Lib.hid (R0.out.below hb1 z0)
  obtain ⟨a0, a1, a2, a3, a4, a5, a6, a7, a8, a9, aA⟩ := R1.out.cells_
  have hbw := (e0.mono l0).trans (hb1.mono (by have := e0.size; omega))
  cases hok : fewR x.r with
  | true =>
    have HK := Lib.hid hok; clear hok
    go_wp2_with fail
    all_goals (go_ret; refine ⟨ret_b ?_, hbw⟩; have k2 := HK.out; simp only [fewRcp, k2]; simp [*]; try (intros; omega))
  | false =>
    have HK := Lib.hid hok; clear hok
    go_wp2_with fail
    all_goals (go_ret; refine ⟨ret_b ?_, hbw⟩; have k2 := HK.out; simp only [fewRcp, k2, Bool.false_and])

set_option maxRecDepth 100000 in
set_option maxHeartbeats 2000000 in
theorem rlast_walk (v : Value) (l : List Sld) (w : World) (h : SldRow w v l) (hl : l.length ≤ 1048576) :
    Calls Tryz.prog 67 #[v] w fun e w' => e = .returned (.string (lastB l)) ∧ Below w.heap.size w w' := by
  by_cases h0 : l = []
  · subst h0
    obtain ⟨a, c, rfl⟩ := h.shape
    clear h
    go_enter Tryz.func67, Tryz.ntmps67
    go_wp2_with fail
    refine (noughts_walk 32 _ (by omega) (by omega)).mono ?_
    rintro e w1 ⟨p, rfl, tp, hb1⟩
    go_wp2_with fail
    go_ret
    exact ⟨ret_s (tp.eqB), hb1⟩
  · rcases h with ⟨rfl, _⟩ | ⟨g, o, c, rfl, hcap, hg, hat⟩
    · exact absurd rfl h0
    obtain ⟨n, hn⟩ : ∃ n, n = l.length := ⟨_, rfl⟩
    have hpos : 0 < n := by rw [hn]; exact List.length_pos_iff.2 h0
    obtain ⟨x, hx⟩ : ∃ x, l[n - 1]? = some x := ⟨_, List.getElem?_eq_getElem (by omega)⟩
    have c8 : w.cell? ⟨g, o + (n - 1) * 9 + 8, none⟩ = some (.string x.tag) := hat _ x hx 8 _ rfl
    have hlast : lastB l = x.tag := by
      unfold lastB
      rw [List.getLast?_eq_getElem?, ← hn, hx]
    have HL := Lib.hid hlast
    have k1 : (0 : Int) ≤ (n : Int) - 1 := by omega
    have k2 : (n : Int) - 1 < n := by omega
    have k3 : ¬ ((n : Int) = 0) := by omega
    have k4 : (n : Int) ≤ 1048576 := by omega
    clear hat hx h0 hlast
    rw [← hn]
    rw [← hn] at hcap
    clear hn hl
    go_enter Tryz.func67, Tryz.ntmps67
    go_wp2_with fail
    go_ret
    exact ⟨ret_s HL.out.symm, Below.refl _ _⟩
end Go.Proofs.YtidekfbgjghcjaaGreat
namespace Go.Proofs.YtidekfbgjghcjaaGreat
set_option linter.unusedSimpArgs false
set_option linter.unusedVariables false
open Go Go.RowKit

def rcpAt (l : List Sld) (k : Nat) (x : Sld) : Rcp := ⟨(k : Int), x.r, lastB (l.take k), x.tag⟩
theorem SldRow.takeK {w : World} {g o n c : Nat} {l : List Sld} (h : SldRow w (.slice (some ⟨g, o, none⟩) n c) l) (hn : n = l.length) {k : Nat} (hk : k ≤ n) : SldRow w (.slice (some ⟨g, o, none⟩) k c) (l.take k) := by
  by_cases h0 : l = []
  · subst h0
    simp at hn; subst hn
    obtain rfl : k = 0 := by omega
    exact .inl ⟨by simp, _, _, rfl⟩
  · rcases h with ⟨h1, _⟩ | ⟨g', o', c', he, hc, hg, hat⟩
    · exact absurd h1 h0
    · simp at he
      obtain ⟨⟨rfl, rfl⟩, rfl, rfl⟩ := he
      exact SldRow.take (.inr ⟨_, _, _, rfl, hc, hg, hat⟩) hg rfl hc hat hk
def SldTame (l : List Sld) : Prop := ∀ (j : Nat) (x : Sld), l[j]? = some x → x.r.name.size ≤ 1048576 ∧ x.r.root.size ≤ 1048576 ∧ x.tag.size ≤ 1048576 ∧ Fits x.r.epoch
theorem zeroRcp (w : World) : Sem.run Tryz.prog (zeroValue 37) w = .ok (.agg Rcp.zero.cells.toArray) w := by kernel_rfl
theorem Rcp.cells_one (x : Rcp) : ∀ v ∈ x.cells, v.oneCell' = true := by intro v hv; simp [Rcp.cells] at hv; rcases hv with rfl | rfl | rfl | rfl | rfl | rfl | rfl | rfl | rfl | rfl | rfl <;> rfl
end Go.Proofs.YtidekfbgjghcjaaGreat
namespace Go.Proofs.YtidekfbgjghcjaaGreat
set_option linter.unusedSimpArgs false
set_option linter.unusedVariables false
open Go Go.RowKit

deriving instance DecidableEq for Rec
deriving instance DecidableEq for Rcp
theorem bytes_same {a b : ByteArray} (h : a.toList = b.toList) : a = b := by
  have h1 := (Txt.self a).toList
  have h2 := (Txt.self b).toList
  rw [h, h2] at h1
  obtain ⟨⟨a⟩⟩ := a
  obtain ⟨⟨b⟩⟩ := b
  simpa using h1.symm
end Go.Proofs.YtidekfbgjghcjaaGreat
namespace Go.Proofs.YtidekfbgjghcjaaGreat
set_option linter.unusedSimpArgs false
set_option linter.unusedVariables false
open Go Go.RowKit

end Go.Proofs.YtidekfbgjghcjaaGreat
namespace Go.Proofs.YtidekfbgjghcjaaGreat
set_option linter.unusedSimpArgs false
set_option linter.unusedVariables false
open Go Go.RowKit

deriving instance DecidableEq for Sld
def recEq (x y : Rec) : Bool := decide (x = y)
def rcpEq (x y : Rcp) : Bool := decide (x = y)
def sldEq (x y : Sld) : Bool := decide (x = y)
set_option maxRecDepth 100000 in
theorem eqRec0 (k ep ti co ta un : Int) (ro na : ByteArray) (k' ep' ti' co' ta' un' : Int) (ro' na' : ByteArray) (d : Nat) (w : World) :
    (Op.equalIn (d + 2) 25 (.agg #[.int .i64 k, .int .i64 ep, .int .i64 ti, .int .i64 co, .int .i64 ta, .int .i64 un, .string ro, .string na]) (.agg #[.int .i64 k', .int .i64 ep', .int .i64 ti', .int .i64 co', .int .i64 ta', .int .i64 un', .string ro', .string na'])).run Tryz.prog w = .ok (recEq ⟨k, ep, ti, co, ta, un, ro, na⟩ ⟨k', ep', ti', co', ta', un', ro', na'⟩) w := by
  have e : recEq ⟨k, ep, ti, co, ta, un, ro, na⟩ ⟨k', ep', ti', co', ta', un', ro', na'⟩ = (k == k' && (ep == ep' && (ti == ti' && (co == co' && (ta == ta' && (un == un' && (decide (ro = ro') && (decide (na = na') && true)))))))) := by
    unfold recEq
    rw [Bool.eq_iff_iff]
    simp
  rw [e]
  refine eq_struct (d := d + 1) Tryz.underlying25 (by kernel_rfl) ?_
  refine eqf_int (k := .i64) (by decide) (by kernel_rfl) (by kernel_rfl) Tryz.underlying3 ?_
  refine eqf_int (k := .i64) (by decide) (by kernel_rfl) (by kernel_rfl) Tryz.underlying3 ?_
  refine eqf_int (k := .i64) (by decide) (by kernel_rfl) (by kernel_rfl) Tryz.underlying3 ?_
  refine eqf_int (k := .i64) (by decide) (by kernel_rfl) (by kernel_rfl) Tryz.underlying3 ?_
  refine eqf_int (k := .i64) (by decide) (by kernel_rfl) (by kernel_rfl) Tryz.underlying3 ?_
  refine eqf_int (k := .i64) (by decide) (by kernel_rfl) (by kernel_rfl) Tryz.underlying3 ?_
  refine eqf_str (by decide) (by kernel_rfl) (by kernel_rfl) Tryz.underlying9 ?_
  refine eqf_str (by decide) (by kernel_rfl) (by kernel_rfl) Tryz.underlying9 ?_
  exact eqf_nil
set_option maxRecDepth 100000 in
theorem eqSld0 (k ep ti co ta un : Int) (ro na tg : ByteArray) (k' ep' ti' co' ta' un' : Int) (ro' na' tg' : ByteArray) (w : World) :
    (Op.equalIn 10000 27 (.agg #[.int .i64 k, .int .i64 ep, .int .i64 ti, .int .i64 co, .int .i64 ta, .int .i64 un, .string ro, .string na, .string tg]) (.agg #[.int .i64 k', .int .i64 ep', .int .i64 ti', .int .i64 co', .int .i64 ta', .int .i64 un', .string ro', .string na', .string tg'])).run Tryz.prog w = .ok (sldEq ⟨⟨k, ep, ti, co, ta, un, ro, na⟩, tg⟩ ⟨⟨k', ep', ti', co', ta', un', ro', na'⟩, tg'⟩) w := by
  have e : sldEq ⟨⟨k, ep, ti, co, ta, un, ro, na⟩, tg⟩ ⟨⟨k', ep', ti', co', ta', un', ro', na'⟩, tg'⟩ = (recEq ⟨k, ep, ti, co, ta, un, ro, na⟩ ⟨k', ep', ti', co', ta', un', ro', na'⟩ && (decide (tg = tg') && true)) := by
    unfold sldEq recEq
    rw [Bool.eq_iff_iff]
    simp
  rw [e]
  refine eq_struct (d := 9999) Tryz.underlying27 (by kernel_rfl) ?_
  refine eqf_agg (by decide) (by kernel_rfl) (by kernel_rfl) (eqRec0 k ep ti co ta un ro na k' ep' ti' co' ta' un' ro' na' 9997 w) ?_
  refine eqf_str (d := 9998) (by decide) (by kernel_rfl) (by kernel_rfl) Tryz.underlying9 ?_
  exact eqf_nil
set_option maxRecDepth 100000 in
theorem eqRcp0 (s k ep ti co ta un : Int) (ro na wa tg : ByteArray) (s' k' ep' ti' co' ta' un' : Int) (ro' na' wa' tg' : ByteArray) (w : World) :
    (Op.equalIn 10000 37 (.agg #[.int .i64 s, .int .i64 k, .int .i64 ep, .int .i64 ti, .int .i64 co, .int .i64 ta, .int .i64 un, .string ro, .string na, .string wa, .string tg]) (.agg #[.int .i64 s', .int .i64 k', .int .i64 ep', .int .i64 ti', .int .i64 co', .int .i64 ta', .int .i64 un', .string ro', .string na', .string wa', .string tg'])).run Tryz.prog w = .ok (rcpEq ⟨s, ⟨k, ep, ti, co, ta, un, ro, na⟩, wa, tg⟩ ⟨s', ⟨k', ep', ti', co', ta', un', ro', na'⟩, wa', tg'⟩) w := by
  have e : rcpEq ⟨s, ⟨k, ep, ti, co, ta, un, ro, na⟩, wa, tg⟩ ⟨s', ⟨k', ep', ti', co', ta', un', ro', na'⟩, wa', tg'⟩ = (s == s' && (recEq ⟨k, ep, ti, co, ta, un, ro, na⟩ ⟨k', ep', ti', co', ta', un', ro', na'⟩ && (decide (wa = wa') && (decide (tg = tg') && true)))) := by
    unfold rcpEq recEq
    rw [Bool.eq_iff_iff]
    simp
  rw [e]
  refine eq_struct (d := 9999) Tryz.underlying37 (by kernel_rfl) ?_
  refine eqf_int (k := .i64) (d := 9998) (by decide) (by kernel_rfl) (by kernel_rfl) Tryz.underlying3 ?_
  refine eqf_agg (by decide) (by kernel_rfl) (by kernel_rfl) (eqRec0 k ep ti co ta un ro na k' ep' ti' co' ta' un' ro' na' 9997 w) ?_
  refine eqf_str (d := 9998) (by decide) (by kernel_rfl) (by kernel_rfl) Tryz.underlying9 ?_
  refine eqf_str (d := 9998) (by decide) (by kernel_rfl) (by kernel_rfl) Tryz.underlying9 ?_
  exact eqf_nil
theorem guardRcp : Tryz.prog.eqGuardType Tryz.prog.depth 37 = false := by kernel_rfl
theorem guardSld : Tryz.prog.eqGuardType Tryz.prog.depth 27 = false := by kernel_rfl
theorem eqSldT (x : Sld) (w : World) : (Op.equalIn 10000 27 (.agg x.cells.toArray) (.agg x.cells.toArray)).run Tryz.prog w = .ok true w := by
  have h := eqSld0 x.r.kind x.r.epoch x.r.time x.r.count x.r.target x.r.till x.r.root x.r.name x.tag x.r.kind x.r.epoch x.r.time x.r.count x.r.target x.r.till x.r.root x.r.name x.tag w
  rw [show sldEq _ _ = true from decide_eq_true rfl] at h
  exact h
theorem eqSldF {x y : Sld} (hne : x ≠ y) (w : World) : (Op.equalIn 10000 27 (.agg x.cells.toArray) (.agg y.cells.toArray)).run Tryz.prog w = .ok false w := by
  have h := eqSld0 x.r.kind x.r.epoch x.r.time x.r.count x.r.target x.r.till x.r.root x.r.name x.tag y.r.kind y.r.epoch y.r.time y.r.count y.r.target y.r.till y.r.root y.r.name y.tag w
  rw [show sldEq _ _ = false from decide_eq_false hne] at h
  exact h
end Go.Proofs.YtidekfbgjghcjaaGreat
namespace Go.Proofs.YtidekfbgjghcjaaGreat
set_option linter.unusedSimpArgs false
set_option linter.unusedVariables false
open Go Go.RowKit Go.ChangeShapes Go.WideShapes Go.Deep

structure RcpFits (x : Rcp) : Prop where
  seq : Fits x.seq
  r : RecFits x.r

section
variable {H : Type} {enc : TypeId × Value → H} {w : World} {base : Nat} {spare : Nat → Bool} {held : Bool}
set_option maxRecDepth 100000 in
theorem rcp_trod {fuel : Nat} {cs : List Value} {x : DataW H × List MemPlace} (h : DataW.trod enc Tryz.prog w base spare held fuel 37 cs = some x) : ∃ s : Rcp, cs = s.cells ∧ RcpFits s := by
  obtain ⟨xs, n, _, _, hl, hlen, hf⟩ := DataW.trod_struct Tryz.underlying37 h
  have hc : Tryz.prog.cellsOf 37 = 11 := by kernel_rfl
  have k0 : Tryz.prog.cellsOf 3 = 1 := by kernel_rfl
  have k1 : Tryz.prog.cellsOf 25 = 8 := by kernel_rfl
  have k2 : Tryz.prog.cellsOf 9 = 1 := by kernel_rfl
  rw [hc] at hl
  match xs, hlen with
  | [y0, y1, y2, y3], _ =>
    have g0 : DataW.trod enc Tryz.prog w base spare held n 3 (List.take (Tryz.prog.cellsOf 3) (List.drop 0 cs)) = some y0 := hf 0 _ rfl
    have g1 : DataW.trod enc Tryz.prog w base spare held n 25 (List.take (Tryz.prog.cellsOf 25) (List.drop 1 cs)) = some y1 := hf 1 _ rfl
    have g2 : DataW.trod enc Tryz.prog w base spare held n 9 (List.take (Tryz.prog.cellsOf 9) (List.drop 9 cs)) = some y2 := hf 2 _ rfl
    have g3 : DataW.trod enc Tryz.prog w base spare held n 9 (List.take (Tryz.prog.cellsOf 9) (List.drop 10 cs)) = some y3 := hf 3 _ rfl
    rw [k0] at g0
    rw [k1] at g1
    rw [k2] at g2 g3
    obtain ⟨n0, e0, _, f0⟩ := DataW.trod_int Tryz.underlying3 g0
    obtain ⟨r, hr, hfit⟩ := rec_trod g1
    obtain ⟨s, hs, _, _⟩ := DataW.trod_string Tryz.underlying9 g2
    obtain ⟨t, ht, _, _⟩ := DataW.trod_string Tryz.underlying9 g3
    refine ⟨⟨n0, r, s, t⟩, ?_, ⟨fits_of_wf f0, hfit⟩⟩
    have e1 : cs = cs.take 1 ++ ((cs.drop 1).take 8 ++ ((cs.drop 9).take 1 ++ (cs.drop 10).take 1)) := by
      match cs, hl with
      | [_, _, _, _, _, _, _, _, _, _, _], _ => rfl
    rw [List.drop_zero] at e0
    rw [e1, e0, hr, hs, ht]
    rfl

end
end Go.Proofs.YtidekfbgjghcjaaGreat

