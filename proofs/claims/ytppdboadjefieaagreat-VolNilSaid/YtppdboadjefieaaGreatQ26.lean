/- Walks of receipt.may, Make, Of and the documents' Few, Right, Make, Last (chapters 19, 20, 21). Walks of receipt.Make and the documents' Make (chapter 21). Walks of receipt.Of, Forge, All (chapter 21). Walk of receipt.Forge (chapter 21). The equality of two receipts, of two sealed records, of two places as one step. What a statement's parameters hand to its walk: a receipt by value. A held text's bytes (chapter 12): Hold. -/
import Derived.Test.YtppdboadjefieaaGreatQ15
import Derived.Deep.RegionHeld3
import Derived.Deep.RegionWith
import Derived.Deep.MidRow
import Derived.Laws.ResultCell
import Derived.Deep.QuietTactic
import Derived.BigQuiet
import Derived.Test.YtppdboadjefieaaGreatQ2
import Derived.Test.YtppdboadjefieaaGreatQ20
import Derived.Test.YtppdboadjefieaaGreatQ9
import Derived.OrdersHeld
set_option linter.unusedSimpArgs false
set_option linter.unusedVariables false
namespace Go.Proofs.YtppdboadjefieaaGreat
open Go Go.RowKit

structure Rcp where
  seq : Int
  r : Rec
  was : ByteArray
  tag : ByteArray
def Rcp.cells (x : Rcp) : List Value := [.int .i64 x.seq, .int .i64 x.r.kind, .int .i64 x.r.epoch, .int .i64 x.r.time, .int .i64 x.r.count, .int .i64 x.r.target, .int .i64 x.r.till, .string x.r.root, .string x.r.name, .string x.was, .string x.tag]
def Rcp.v (x : Rcp) : Value := .agg #[.int .i64 x.seq, .int .i64 x.r.kind, .int .i64 x.r.epoch, .int .i64 x.r.time, .int .i64 x.r.count, .int .i64 x.r.target, .int .i64 x.r.till, .string x.r.root, .string x.r.name, .string x.was, .string x.tag]
def Rcp.zero : Rcp := ⟨0, Rec.zero, ⟨#[]⟩, ⟨#[]⟩⟩
def rcpOk (x : Rcp) : Bool := decide (0 ≤ x.seq) && decide (x.seq ≤ 4294967295) && recOk x.r && decide (x.r.kind = 1) && decide ((x.was.size : Int) = 32) && decide ((x.tag.size : Int) = 32)
def lastB (l : List Sld) : ByteArray := match l.getLast? with | none => ⟨(List.replicate 32 (0 : UInt8)).toArray⟩ | some x => x.tag
theorem Txt.eqB {p : ByteArray} {l : List UInt8} (h : Txt p l) : p = ⟨l.toArray⟩ := by
  have h1 : p.data.toList = l := h
  rw [← h1]
theorem rsizeRcp {x : Rcp} : (Tryz.prog.info? 64).map (·.size) = some x.cells.length := by kernel_rfl
theorem ret_s {a b : ByteArray} (h : a = b) : Ending.returned (.string a) = .returned (.string b) := by rw [h]
structure RcpAt (w : World) (b : Nat) (x : Rcp) : Prop where
  lt : b < w.heap.size
  at_ : ∀ (i : Nat) (u : Value), x.cells[i]? = some u → w.cell? ⟨b, i, none⟩ = some u
theorem RcpAt.below {w w' : World} {b : Nat} {x : Rcp} (h : RcpAt w b x) {B : Nat} (hb : Below B w w') (hB : b < B) : RcpAt w' b x :=
  ⟨by have := hb.size; have := h.lt; omega, fun i u hu => by rw [hb.cell (by exact hB)]; exact h.at_ i u hu⟩
theorem RcpAt.blk {w : World} {b : Nat} {x : Rcp} {t : TypeId} (h : Blk w b x.cells t) : RcpAt w b x := ⟨h.lt, fun i u hu => h.cell hu⟩
theorem RcpAt.cells_ {w : World} {b : Nat} {x : Rcp} (h : RcpAt w b x) :
    w.cell? ⟨b, 0, none⟩ = some (.int .i64 x.seq) ∧ w.cell? ⟨b, 1, none⟩ = some (.int .i64 x.r.kind) ∧ w.cell? ⟨b, 2, none⟩ = some (.int .i64 x.r.epoch) ∧ w.cell? ⟨b, 3, none⟩ = some (.int .i64 x.r.time) ∧ w.cell? ⟨b, 4, none⟩ = some (.int .i64 x.r.count) ∧
    w.cell? ⟨b, 5, none⟩ = some (.int .i64 x.r.target) ∧ w.cell? ⟨b, 6, none⟩ = some (.int .i64 x.r.till) ∧ w.cell? ⟨b, 7, none⟩ = some (.string x.r.root) ∧ w.cell? ⟨b, 8, none⟩ = some (.string x.r.name) ∧ w.cell? ⟨b, 9, none⟩ = some (.string x.was) ∧ w.cell? ⟨b, 10, none⟩ = some (.string x.tag) :=
  ⟨h.at_ 0 _ rfl, h.at_ 1 _ rfl, h.at_ 2 _ rfl, h.at_ 3 _ rfl, h.at_ 4 _ rfl, h.at_ 5 _ rfl, h.at_ 6 _ rfl, h.at_ 7 _ rfl, h.at_ 8 _ rfl, h.at_ 9 _ rfl, h.at_ 10 _ rfl⟩

set_option maxRecDepth 100000 in
set_option maxHeartbeats 2000000 in
theorem may21_walk (x : Rcp) (w : World) (hname : x.r.name.size ≤ 1073741824) (hf : Fits x.r.epoch) (hs : Fits x.seq) :
    Calls Tryz.prog 157 #[x.v] w fun e w' => e = .returned (.bool (rcpOk x)) ∧ Below w.heap.size w w' := by
  by_cases c1 : 0 ≤ x.seq ∧ x.seq ≤ 4294967295
  · have HC := Lib.hid c1; clear c1
    go_enter Tryz.func157, Tryz.ntmps157
    go_wp2_with ((with_reducible refine wpList_box_new 64 (.tmp 0) x.cells (some 1) ?hgd ?ho ?hd ?hx ?_); (case hgd | ho | hd | hx => rfl); (intro b w0 l0 B0 e0 z0; have R0 := Lib.hid (RcpAt.blk B0); obtain ⟨a0, a1, a2, a3, a4, a5, a6, a7, a8, a9, aA⟩ := R0.out.cells_))
    clear a0 a1 a2 a3 a4 a5 a6 a7 a8 a9 aA
    refine (oput4_walk x.seq _ hs).mono ?_
    rintro e w1 ⟨he, hb1⟩
    obtain ⟨q, rfl, tq⟩ := he.yes HC.out
    have R1 := Lib.hid (R0.out.below hb1 z0)
    obtain ⟨a0, a1, a2, a3, a4, a5, a6, a7, a8, a9, aA⟩ := R1.out.cells_
    go_wp2_with fail
    clear a0 a1 a2 a3 a4 a5 a6 a7 a8 a9 aA
    refine (check_walk x.r _ hname hf).mono ?_
    rintro e w2 ⟨rfl, hb2⟩
    have R2 := Lib.hid (R1.out.below hb2 R1.out.lt)
    obtain ⟨a0, a1, a2, a3, a4, a5, a6, a7, a8, a9, aA⟩ := R2.out.cells_
    have hbw := (e0.mono l0).trans ((bt hb1 hb2).mono (by have := e0.size; omega))
    cases hok : recOk x.r with
    | true =>
      rw [chkI_yes hok]
      have HK := Lib.hid hok; clear hok
      go_wp2_with fail
      all_goals (go_ret; refine ⟨ret_b ?_, hbw⟩; have k1 := HC.out; have k2 := HK.out; simp only [rcpOk, k2, Bool.and_true]; first | (simp [*]; done) | (simp [*]; intros; omega) | (rw [Bool.eq_iff_iff]; simp; omega))
    | false =>
      rw [chkI_no hok]
      have HK := Lib.hid hok; clear hok
      go_wp2_with fail
      all_goals (go_ret; refine ⟨ret_b ?_, hbw⟩; have k2 := HK.out; simp only [rcpOk, k2, Bool.and_false, Bool.false_and])
  · have HC := Lib.hid c1; clear c1
    go_enter Tryz.func157, Tryz.ntmps157
    go_wp2_with ((with_reducible refine wpList_box_new 64 (.tmp 0) x.cells (some 1) ?hgd ?ho ?hd ?hx ?_); (case hgd | ho | hd | hx => rfl); (intro b w0 l0 B0 e0 z0; have R0 := Lib.hid (RcpAt.blk B0); obtain ⟨a0, a1, a2, a3, a4, a5, a6, a7, a8, a9, aA⟩ := R0.out.cells_))
    clear a0 a1 a2 a3 a4 a5 a6 a7 a8 a9 aA
    refine (oput4_walk x.seq _ hs).mono ?_
    rintro e w1 ⟨he, hb1⟩
    obtain rfl := he.no HC.out
    have R1 := Lib.hid (R0.out.below hb1 z0)
    obtain ⟨a0, a1, a2, a3, a4, a5, a6, a7, a8, a9, aA⟩ := R1.out.cells_
    have hbw := (e0.mono l0).trans (hb1.mono (by have := e0.size; omega))
    go_wp2_with fail
    all_goals (go_ret; refine ⟨ret_b ?_, hbw⟩; have k1 := HC.out; simp only [rcpOk, ← Bool.decide_and, k1]; simp)

set_option maxRecDepth 100000 in
set_option maxHeartbeats 2000000 in
theorem clast_walk (v : Value) (l : List Sld) (w : World) (h : SldRow w v l) (hl : l.length ≤ 1048576) :
    Calls Tryz.prog 134 #[v] w fun e w' => e = .returned (.string (lastB l)) ∧ Below w.heap.size w w' := by
  by_cases h0 : l = []
  · subst h0
    obtain ⟨a, c, rfl⟩ := h.shape
    clear h
    go_enter Tryz.func134, Tryz.ntmps134
    go_wp2_with fail
    refine (begin_walk _).mono ?_
    rintro e w1 ⟨p, rfl, tp, hb1⟩
    go_wp2_with fail
    go_ret
    exact ⟨ret_s (tp.eqB), hb1⟩
  · rcases h with ⟨rfl, _⟩ | ⟨g, o, c, rfl, hcap, hg, hat⟩
    · exact absurd rfl h0
    obtain ⟨n, hn⟩ : ∃ n, n = l.length := ⟨_, rfl⟩
    have hpos : 0 < n := by rw [hn]; exact List.length_pos_iff.2 h0
    obtain ⟨x, hx⟩ : ∃ x, l[n - 1]? = some x := ⟨_, List.getElem?_eq_getElem (by omega)⟩
    have c8 : w.cell? ⟨g, o + (n - 1) * 9 + 8, none⟩ = some (.string x.tag) := hat _ x hx 8 _ rfl
    have hlast : lastB l = x.tag := by
      unfold lastB
      rw [List.getLast?_eq_getElem?, ← hn, hx]
    have HL := Lib.hid hlast
    have k1 : (0 : Int) ≤ (n : Int) - 1 := by omega
    have k2 : (n : Int) - 1 < n := by omega
    have k3 : ¬ ((n : Int) = 0) := by omega
    have k4 : (n : Int) ≤ 1048576 := by omega
    clear hat hx h0 hlast
    rw [← hn]
    rw [← hn] at hcap
    clear hn hl
    go_enter Tryz.func134, Tryz.ntmps134
    go_wp2_with fail
    go_ret
    exact ⟨ret_s HL.out.symm, Below.refl _ _⟩
end Go.Proofs.YtppdboadjefieaaGreat
namespace Go.Proofs.YtppdboadjefieaaGreat
open Go Go.RowKit

def rcpAt (l : List Sld) (k : Nat) (x : Sld) : Rcp := ⟨(k : Int), x.r, lastB (l.take k), x.tag⟩
def closeAt (l : List Sld) (i : Int) : Option Sld := if 0 ≤ i then (l[i.toNat]?).filter (fun x => decide (x.r.kind = 1)) else none
def makeS (l : List Sld) (i : Int) : Rcp × Int :=
  match closeAt l i with
  | none => (Rcp.zero, 7)
  | some x => if rcpOk (rcpAt l i.toNat x) then (rcpAt l i.toNat x, 0) else (Rcp.zero, 2)
theorem makeS_none {l : List Sld} {i : Int} (h : closeAt l i = none) : makeS l i = (Rcp.zero, 7) := by unfold makeS; rw [h]
theorem closeAt_out {l : List Sld} {i : Int} (h : ¬ (0 ≤ i ∧ i < l.length)) : closeAt l i = none := by
  unfold closeAt
  split
  · rw [List.getElem?_eq_none (by omega)]; rfl
  · rfl
theorem closeAt_at {l : List Sld} {k : Nat} {x : Sld} (h : l[k]? = some x) : closeAt l k = if x.r.kind = 1 then some x else none := by
  unfold closeAt
  rw [if_pos (by omega), Int.toNat_natCast, h]
  by_cases hk : x.r.kind = 1
  · rw [if_pos hk]; simp [Option.filter, hk]
  · rw [if_neg hk]; simp [Option.filter, hk]
theorem makeS_at {l : List Sld} {k : Nat} {x : Sld} (h : l[k]? = some x) (hk : x.r.kind = 1) : makeS l k = if rcpOk (rcpAt l k x) then (rcpAt l k x, 0) else (Rcp.zero, 2) := by
  unfold makeS
  rw [closeAt_at h, if_pos hk]
  rfl
def SldTame (l : List Sld) : Prop := ∀ (j : Nat) (x : Sld), l[j]? = some x → x.r.name.size ≤ 1048576 ∧ x.r.root.size ≤ 1048576 ∧ x.tag.size ≤ 1048576 ∧ Fits x.r.epoch
theorem zeroRcp (w : World) : Sem.run Tryz.prog (zeroValue 64) w = .ok (.agg Rcp.zero.cells.toArray) w := by kernel_rfl
theorem Rcp.cells_one (x : Rcp) : ∀ v ∈ x.cells, v.oneCell' = true := by intro v hv; simp [Rcp.cells] at hv; rcases hv with rfl | rfl | rfl | rfl | rfl | rfl | rfl | rfl | rfl | rfl | rfl <;> rfl
theorem set11 {w : World} {b : Nat} {old : List Value} {t : TypeId} {v0 v1 v2 v3 v4 v5 v6 v7 v8 v9 v10 : Value} (h : Blk w b old t) (hl : old.length = 11) :
    Blk (((((((((((w.setCell ⟨b, 0, none⟩ v0).setCell ⟨b, 1, none⟩ v1).setCell ⟨b, 2, none⟩ v2).setCell ⟨b, 3, none⟩ v3).setCell ⟨b, 4, none⟩ v4).setCell ⟨b, 5, none⟩ v5).setCell ⟨b, 6, none⟩ v6).setCell ⟨b, 7, none⟩ v7).setCell ⟨b, 8, none⟩ v8).setCell ⟨b, 9, none⟩ v9).setCell ⟨b, 10, none⟩ v10) b [v0, v1, v2, v3, v4, v5, v6, v7, v8, v9, v10] t :=
  (((((((((((h.set 0 v0).set 1 v1).set 2 v2).set 3 v3).set 4 v4).set 5 v5).set 6 v6).set 7 v7).set 8 v8).set 9 v9).set 10 v10).ext (by
    match old, hl with
    | [_, _, _, _, _, _, _, _, _, _, _], _ => rfl)
theorem below11 {B : Nat} {a w : World} {b : Nat} {v0 v1 v2 v3 v4 v5 v6 v7 v8 v9 v10 : Value} (h : Below B a w) (hB : B ≤ b) : Below B a (((((((((((w.setCell ⟨b, 0, none⟩ v0).setCell ⟨b, 1, none⟩ v1).setCell ⟨b, 2, none⟩ v2).setCell ⟨b, 3, none⟩ v3).setCell ⟨b, 4, none⟩ v4).setCell ⟨b, 5, none⟩ v5).setCell ⟨b, 6, none⟩ v6).setCell ⟨b, 7, none⟩ v7).setCell ⟨b, 8, none⟩ v8).setCell ⟨b, 9, none⟩ v9).setCell ⟨b, 10, none⟩ v10) :=
  ((((((((((((Only.refl b w).setCell 0 v0).setCell 1 v1).setCell 2 v2).setCell 3 v3).setCell 4 v4).setCell 5 v5).setCell 6 v6).setCell 7 v7).setCell 8 v8).setCell 9 v9).setCell 10 v10).below h hB
theorem rcp_vals {l : List Sld} {k : Nat} {x : Sld} (hk : x.r.kind = 1) : [.int .i64 (k : Int), .int .i64 1, .int .i64 x.r.epoch, .int .i64 x.r.time, .int .i64 x.r.count, .int .i64 x.r.target, .int .i64 x.r.till, .string x.r.root, .string x.r.name, .string (lastB (l.take k)), .string x.tag] = (rcpAt l k x).cells := by
  show _ = [Value.int .i64 (k : Int), .int .i64 x.r.kind, .int .i64 x.r.epoch, .int .i64 x.r.time, .int .i64 x.r.count, .int .i64 x.r.target, .int .i64 x.r.till, .string x.r.root, .string x.r.name, .string (lastB (l.take k)), .string x.tag]
  rw [hk]
theorem rcpNew (w : World) {l : List Sld} {k : Nat} {x : Sld} (hk : x.r.kind = 1) : RcpAt (w.alloc (Obj.cells #[.int .i64 (k : Int), .int .i64 1, .int .i64 x.r.epoch, .int .i64 x.r.time, .int .i64 x.r.count, .int .i64 x.r.target, .int .i64 x.r.till, .string x.r.root, .string x.r.name, .string (lastB (l.take k)), .string x.tag] 64)) w.heap.size (rcpAt l k x) :=
  RcpAt.blk (t := 64) ((Blk.new w [.int .i64 (k : Int), .int .i64 1, .int .i64 x.r.epoch, .int .i64 x.r.time, .int .i64 x.r.count, .int .i64 x.r.target, .int .i64 x.r.till, .string x.r.root, .string x.r.name, .string (lastB (l.take k)), .string x.tag] 64).ext (rcp_vals hk))
theorem rcpSet {w : World} {b : Nat} {l : List Sld} {k : Nat} {x : Sld} (hk : x.r.kind = 1) (h : Blk w b Rcp.zero.cells 64) : RcpAt (((((((((((w.setCell ⟨b, 0, none⟩ (.int .i64 (k : Int))).setCell ⟨b, 1, none⟩ (.int .i64 1)).setCell ⟨b, 2, none⟩ (.int .i64 x.r.epoch)).setCell ⟨b, 3, none⟩ (.int .i64 x.r.time)).setCell ⟨b, 4, none⟩ (.int .i64 x.r.count)).setCell ⟨b, 5, none⟩ (.int .i64 x.r.target)).setCell ⟨b, 6, none⟩ (.int .i64 x.r.till)).setCell ⟨b, 7, none⟩ (.string x.r.root)).setCell ⟨b, 8, none⟩ (.string x.r.name)).setCell ⟨b, 9, none⟩ (.string (lastB (l.take k)))).setCell ⟨b, 10, none⟩ (.string x.tag)) b (rcpAt l k x) :=
  RcpAt.blk (t := 64) ((set11 h rfl).ext (rcp_vals hk))
theorem results_cell_rcp {fn : Func} {p u : Tmp} (h : fn.results = #[.cell p 64, .tmp u]) (tmps : Array Value) (w : World) {b : Nat} {x : Rcp} (hb : RcpAt w b x) (hp : tmps.getD p undef = .pointer (some ⟨b, 0, none⟩)) :
    (results fn tmps).run Tryz.prog w = .ok (.tuple #[x.v, tmps.getD u undef]) w := by
  rw [results_cell_tmp h, hp]
  have e := run_loadVar_mid (P := Tryz.prog) w b 0 64 x.cells _ (fun i u hu => by rw [Nat.zero_add]; exact hb.at_ i u hu) Tryz.underlying64 rfl rsizeRcp
  simp only [asAddr, Sem.run_pure, Result.andThen_ok, e]
  rfl
def MakeEnd (l : List Sld) (i : Int) (e : Ending) : Prop := e = .returned (.tuple #[(makeS l i).1.v, .int .i64 (makeS l i).2])

set_option maxRecDepth 100000 in
set_option maxHeartbeats 1500000 in
theorem make_walk (v : Value) (l : List Sld) (i : Int) (w : World) (h : SldRow w v l) (hl : l.length ≤ 1048576) (ht : SldTame l) :
    Calls Tryz.prog 66 #[v, .int .i64 i] w fun e w' => MakeEnd l i e ∧ Below w.heap.size w w' := by
  unfold MakeEnd
  by_cases hin : 0 ≤ i ∧ i < l.length
  rotate_left
  · rw [makeS_none (closeAt_out hin)]
    obtain ⟨p, c, rfl⟩ := h.shape
    obtain ⟨n, hn⟩ : ∃ n, n = l.length := ⟨_, rfl⟩
    rw [← hn]
    rw [← hn] at hin
    clear h ht hn hl
    by_cases hneg : i < 0
    · go_enter Tryz.func66, Tryz.ntmps66
      go_wp2_with (first | ((with_reducible refine wpList_alloc_new 64 Rcp.zero.cells zeroRcp (some 4) ?hgd ?ho ?hd ?_); (case hgd | ho | hd => rfl); (intro b4 w4 l4 B4 e4 z4)) | ((with_reducible refine wpList_store_new 64 (.tmp 4) (.tmp 24) b4 Rcp.zero.cells Rcp.zero.cells 64 B4 rfl rsizeRcp (Rcp.cells_one _) ?hgd ?ho ?hx ?hy ?_); (case hgd | ho | hx | hy => rfl); (intro w5 B5 o5)))
      (try simp only [Exit.inBlock, Exit.then]); refine bodyPost_ret (results_cell_rcp rfl _ _ (RcpAt.blk B5) rfl) rfl ⟨rfl, o5.below (e4.mono l4) l4⟩
    · have h1 : 0 ≤ i := by omega
      have h2 : (n : Int) ≤ i := by omega
      go_enter Tryz.func66, Tryz.ntmps66
      go_wp2_with (first | ((with_reducible refine wpList_alloc_new 64 Rcp.zero.cells zeroRcp (some 4) ?hgd ?ho ?hd ?_); (case hgd | ho | hd => rfl); (intro b4 w4 l4 B4 e4 z4)) | ((with_reducible refine wpList_store_new 64 (.tmp 4) (.tmp 24) b4 Rcp.zero.cells Rcp.zero.cells 64 B4 rfl rsizeRcp (Rcp.cells_one _) ?hgd ?ho ?hx ?hy ?_); (case hgd | ho | hx | hy => rfl); (intro w5 B5 o5)))
      (try simp only [Exit.inBlock, Exit.then]); refine bodyPost_ret (results_cell_rcp rfl _ _ (RcpAt.blk B5) rfl) rfl ⟨rfl, o5.below (e4.mono l4) l4⟩
  · rcases h with ⟨rfl, _⟩ | ⟨g, o, c, rfl, hcap, hg, hat⟩
    · simp at hin; omega
    obtain ⟨k, rfl⟩ : ∃ k : Nat, i = (k : Int) := ⟨i.toNat, by omega⟩
    have hkl : k < l.length := by omega
    obtain ⟨x, hx⟩ : ∃ x, l[k]? = some x := ⟨_, List.getElem?_eq_getElem hkl⟩
    obtain ⟨n, hn⟩ : ∃ n, n = l.length := ⟨_, rfl⟩
    have HA : Hid (SldAt w g o n c l) := Lib.hid ⟨hn, by omega, hg, hat⟩
    have hrow : SldRow w (.slice (some ⟨g, o, none⟩) n c) l := HA.out.row
    have HT := Lib.hid (ht k x hx)
    have hk0 : (0 : Int) ≤ (k : Int) := by omega
    have hkn : (k : Int) < n := by omega
    have hkc : (k : Int) ≤ c := by omega
    have hkn' : k ≤ n := by omega
    have hnk : ¬ n ≤ k := by omega
    have hkt : (l.take k).length ≤ 1048576 := by rw [List.length_take]; omega
    have HKT := Lib.hid hkt
    have HKK : Hid ((k : Int) ≤ 1048576) := Lib.hid (by omega)
    rw [← hn]
    have HX := Lib.hid hx
    by_cases hk : x.r.kind = 1
    rotate_left
    · have hkb : (x.r.kind != 1) = true := by simpa using hk
      have hm : makeS l (k : Int) = (Rcp.zero, 7) := makeS_none (by rw [closeAt_at hx, if_neg hk])
      rw [hm]
      clear hm hx hat hkl hl hn ht hrow hkt
      go_enter Tryz.func66, Tryz.ntmps66
      go_wp2_with (first | ((with_reducible refine wpList_alloc_new 64 Rcp.zero.cells zeroRcp (some 4) ?hgd ?ho ?hd ?_); (case hgd | ho | hd => rfl); (intro b4 w4 l4 B4 e4 z4); (have HA4 := Lib.hid (HA.out.below e4 l4)); (obtain ⟨c0, c1, c2, c3, c4, c5, c6, c7, c8⟩ := sld_cells (HA4.out.at_ k x HX.out))) | ((with_reducible refine wpList_store_new 64 (.tmp 4) (.tmp 24) b4 Rcp.zero.cells Rcp.zero.cells 64 B4 rfl rsizeRcp (Rcp.cells_one _) ?hgd ?ho ?hx ?hy ?_); (case hgd | ho | hx | hy => rfl); (intro w5 B5 o5)))
      (try simp only [Exit.inBlock, Exit.then]); refine bodyPost_ret (results_cell_rcp rfl _ _ (RcpAt.blk B5) rfl) rfl ⟨rfl, o5.below (e4.mono l4) l4⟩
    · have hm := makeS_at hx hk
      have HM := Lib.hid hm
      clear hm hx hat hkl hl hn ht hrow hkt
      go_enter Tryz.func66, Tryz.ntmps66
      go_wp2_with ((with_reducible refine wpList_alloc_new 64 Rcp.zero.cells zeroRcp (some 4) ?hgd ?ho ?hd ?_); (case hgd | ho | hd => rfl); (intro b4 w4 l4 B4 e4 z4); (have HA4 := Lib.hid (HA.out.below e4 l4)); (obtain ⟨c0, c1, c2, c3, c4, c5, c6, c7, c8⟩ := sld_cells (HA4.out.at_ k x HX.out)))
      have hg1 : ¬ g = w4.heap.size := by have := HA4.out.lt; omega
      have hg2 : ¬ w4.heap.size = g := by omega
      have hg3 : g < w4.heap.size := HA4.out.lt
      go_cut [6] from 25 to 41 (fun v6 wc => ∃ b6, v6 = .pointer (some ⟨b6, 0, none⟩) ∧ RcpAt wc b6 (rcpAt l k x) ∧ w4.heap.size ≤ b6 ∧ Below w4.heap.size w4 wc)
      case first =>
        go_region_held3 (fun w' => w'.cell? ⟨g, o + k * 9, none⟩ = some (.int .i64 x.r.kind) ∧ w'.cell? ⟨g, o + k * 9 + 1, none⟩ = some (.int .i64 x.r.epoch) ∧ w'.cell? ⟨g, o + k * 9 + 2, none⟩ = some (.int .i64 x.r.time) ∧ w'.cell? ⟨g, o + k * 9 + 3, none⟩ = some (.int .i64 x.r.count) ∧ w'.cell? ⟨g, o + k * 9 + 4, none⟩ = some (.int .i64 x.r.target) ∧ w'.cell? ⟨g, o + k * 9 + 5, none⟩ = some (.int .i64 x.r.till) ∧ w'.cell? ⟨g, o + k * 9 + 6, none⟩ = some (.string x.r.root) ∧ w'.cell? ⟨g, o + k * 9 + 7, none⟩ = some (.string x.r.name) ∧ w'.cell? ⟨g, o + k * 9 + 8, none⟩ = some (.string x.tag)) (go_keep) ((first | (go_at_call_of 134 (Value.slice (some ⟨g, o, none⟩) k c); refine (clast_walk _ (l.take k) _ (by first | exact (HA4.out.below (Below.refl _ _).drew (Nat.le_refl _)).take hkn' | exact (HA4.out.below ((Below.refl _ _).drew.alloc (Nat.le_refl _) _) (Nat.le_refl _)).take hkn') HKT.out).mono ?_; rintro e wA ⟨rfl, hbA⟩; have d0 := hbA.cell (p := ⟨g, o + k * 9, none⟩) (by have := HA4.out.lt; first | exact this | exact Nat.lt_of_lt_of_le this (by simp)); have d1 := hbA.cell (p := ⟨g, o + k * 9 + 1, none⟩) (by have := HA4.out.lt; first | exact this | exact Nat.lt_of_lt_of_le this (by simp)); have d2 := hbA.cell (p := ⟨g, o + k * 9 + 2, none⟩) (by have := HA4.out.lt; first | exact this | exact Nat.lt_of_lt_of_le this (by simp)); have d3 := hbA.cell (p := ⟨g, o + k * 9 + 3, none⟩) (by have := HA4.out.lt; first | exact this | exact Nat.lt_of_lt_of_le this (by simp)); have d4 := hbA.cell (p := ⟨g, o + k * 9 + 4, none⟩) (by have := HA4.out.lt; first | exact this | exact Nat.lt_of_lt_of_le this (by simp)); have d5 := hbA.cell (p := ⟨g, o + k * 9 + 5, none⟩) (by have := HA4.out.lt; first | exact this | exact Nat.lt_of_lt_of_le this (by simp)); have d6 := hbA.cell (p := ⟨g, o + k * 9 + 6, none⟩) (by have := HA4.out.lt; first | exact this | exact Nat.lt_of_lt_of_le this (by simp)); have d7 := hbA.cell (p := ⟨g, o + k * 9 + 7, none⟩) (by have := HA4.out.lt; first | exact this | exact Nat.lt_of_lt_of_le this (by simp)); have d8 := hbA.cell (p := ⟨g, o + k * 9 + 8, none⟩) (by have := HA4.out.lt; first | exact this | exact Nat.lt_of_lt_of_le this (by simp)); have hsz : w4.heap.size ≤ wA.heap.size := (by have hq := hbA.size; first | exact hq | exact Nat.le_trans (by simp) hq); have hg4 : g < wA.heap.size := Nat.lt_of_lt_of_le hg3 hsz; have hg5 : ¬ g = wA.heap.size := Nat.ne_of_lt hg4; have hg6 : ¬ wA.heap.size = g := Nat.ne_of_gt hg4; have hz := fun (i : Nat) (h : w4.heap.size < _) => hbA.cell (p := ⟨w4.heap.size, i, none⟩) h; have hf := fun (i : Nat) (h : w4.heap.size < _) => hbA.frozen (p := ⟨w4.heap.size, i, none⟩) h; have hz1 := fun (h : w4.heap.size < _) => Nat.lt_of_lt_of_le h hbA.size; have hz2 := fun (h : w4.heap.size < _) => Nat.ne_of_lt (Nat.lt_of_lt_of_le h hbA.size)) | fail))
        all_goals go_wp2_with fail
        all_goals go_meet
        · exact ⟨_, rfl, rcpNew wA hk, hsz, ((Below.refl w4.heap.size w4).drew.trans hbA).alloc hsz _⟩
        · exact ⟨_, rfl, rcpSet hk ((Blk.new w4.drew Rcp.zero.cells 64).below hbA (by simp)), Nat.le_refl _, below11 (((Below.refl w4.heap.size w4).drew.alloc (Nat.le_refl _) _).trans (hbA.mono (by simp))) (Nat.le_refl _)⟩
      case rest =>
        clear c0 c1 c2 c3 c4 c5 c6 c7 c8
        obtain ⟨b6, rfl, R6, hb6, hbc⟩ := hcut
        have B4c := B4.below hbc z4
        have R6 := Lib.hid R6
        obtain ⟨a0, a1, a2, a3, a4, a5, a6, a7, a8, a9, aA⟩ := R6.out.cells_
        go_wp2_with fail
        clear a0 a1 a2 a3 a4 a5 a6 a7 a8 a9 aA
        have hsz := hbc.size
        refine (may21_walk (rcpAt l k x) _ (by have := HT.out.1; show x.r.name.size ≤ _; omega) HT.out.2.2.2 (by show Fits (k : Int); have := HKK.out; unfold Fits; omega)).mono ?_
        rintro e w7 ⟨rfl, hb7⟩
        have B4 := B4c.below hb7 (by omega)
        have R7 := Lib.hid (R6.out.below hb7 R6.out.lt)
        obtain ⟨a0, a1, a2, a3, a4, a5, a6, a7, a8, a9, aA⟩ := R7.out.cells_
        have hbw : Below w.heap.size w w7 := (e4.mono l4).trans ((hbc.trans (hb7.mono hsz)).mono (by omega))
        cases hok : rcpOk (rcpAt l k x) with
        | true =>
          have hm := HM.out
          rw [hok] at hm
          have HM := Lib.hid hm
          clear hm hok
          go_wp2_with ((with_reducible refine wpList_store_new 64 (.tmp 4) (.tmp 45) b4 Rcp.zero.cells (rcpAt l k x).cells 64 B4 rfl rsizeRcp (Rcp.cells_one _) ?hgd ?ho ?hx ?hy ?_); (case hgd | ho | hx | hy => rfl); (intro w5 B5 o5))
          (try simp only [Exit.inBlock, Exit.then]); refine bodyPost_ret (results_cell_rcp rfl _ _ (RcpAt.blk B5) rfl) rfl ⟨by rw [HM.out]; rfl, o5.below hbw l4⟩
        | false =>
          have hm := HM.out
          rw [hok] at hm
          have HM := Lib.hid hm
          clear hm hok a0 a1 a2 a3 a4 a5 a6 a7 a8 a9 aA
          go_wp2_with ((with_reducible refine wpList_store_new 64 (.tmp 4) (.tmp 44) b4 Rcp.zero.cells Rcp.zero.cells 64 B4 rfl rsizeRcp (Rcp.cells_one _) ?hgd ?ho ?hx ?hy ?_); (case hgd | ho | hx | hy => rfl); (intro w5 B5 o5))
          (try simp only [Exit.inBlock, Exit.then]); refine bodyPost_ret (results_cell_rcp rfl _ _ (RcpAt.blk B5) rfl) rfl ⟨by rw [HM.out]; rfl, o5.below hbw l4⟩
end Go.Proofs.YtppdboadjefieaaGreat
namespace Go.Proofs.YtppdboadjefieaaGreat
open Go Go.RowKit

deriving instance DecidableEq for Rec
deriving instance DecidableEq for Rcp
end Go.Proofs.YtppdboadjefieaaGreat
namespace Go.Proofs.YtppdboadjefieaaGreat
open Go Go.RowKit

end Go.Proofs.YtppdboadjefieaaGreat
namespace Go.Proofs.YtppdboadjefieaaGreat
open Go Go.RowKit

deriving instance DecidableEq for Sld
def recEq (x y : Rec) : Bool := decide (x = y)
def rcpEq (x y : Rcp) : Bool := decide (x = y)
set_option maxRecDepth 100000 in
theorem eqRec0 (k ep ti co ta un : Int) (ro na : ByteArray) (k' ep' ti' co' ta' un' : Int) (ro' na' : ByteArray) (d : Nat) (w : World) :
    (Op.equalIn (d + 2) 62 (.agg #[.int .i64 k, .int .i64 ep, .int .i64 ti, .int .i64 co, .int .i64 ta, .int .i64 un, .string ro, .string na]) (.agg #[.int .i64 k', .int .i64 ep', .int .i64 ti', .int .i64 co', .int .i64 ta', .int .i64 un', .string ro', .string na'])).run Tryz.prog w = .ok (recEq ⟨k, ep, ti, co, ta, un, ro, na⟩ ⟨k', ep', ti', co', ta', un', ro', na'⟩) w := by
  have e : recEq ⟨k, ep, ti, co, ta, un, ro, na⟩ ⟨k', ep', ti', co', ta', un', ro', na'⟩ = (k == k' && (ep == ep' && (ti == ti' && (co == co' && (ta == ta' && (un == un' && (decide (ro = ro') && (decide (na = na') && true)))))))) := by
    unfold recEq
    rw [Bool.eq_iff_iff]
    simp
  rw [e]
  refine eq_struct (d := d + 1) Tryz.underlying62 (by kernel_rfl) ?_
  refine eqf_int (k := .i64) (by decide) (by kernel_rfl) (by kernel_rfl) Tryz.underlying3 ?_
  refine eqf_int (k := .i64) (by decide) (by kernel_rfl) (by kernel_rfl) Tryz.underlying3 ?_
  refine eqf_int (k := .i64) (by decide) (by kernel_rfl) (by kernel_rfl) Tryz.underlying3 ?_
  refine eqf_int (k := .i64) (by decide) (by kernel_rfl) (by kernel_rfl) Tryz.underlying3 ?_
  refine eqf_int (k := .i64) (by decide) (by kernel_rfl) (by kernel_rfl) Tryz.underlying3 ?_
  refine eqf_int (k := .i64) (by decide) (by kernel_rfl) (by kernel_rfl) Tryz.underlying3 ?_
  refine eqf_str (by decide) (by kernel_rfl) (by kernel_rfl) Tryz.underlying9 ?_
  refine eqf_str (by decide) (by kernel_rfl) (by kernel_rfl) Tryz.underlying9 ?_
  exact eqf_nil
set_option maxRecDepth 100000 in
theorem eqRcp0 (s k ep ti co ta un : Int) (ro na wa tg : ByteArray) (s' k' ep' ti' co' ta' un' : Int) (ro' na' wa' tg' : ByteArray) (w : World) :
    (Op.equalIn 10000 64 (.agg #[.int .i64 s, .int .i64 k, .int .i64 ep, .int .i64 ti, .int .i64 co, .int .i64 ta, .int .i64 un, .string ro, .string na, .string wa, .string tg]) (.agg #[.int .i64 s', .int .i64 k', .int .i64 ep', .int .i64 ti', .int .i64 co', .int .i64 ta', .int .i64 un', .string ro', .string na', .string wa', .string tg'])).run Tryz.prog w = .ok (rcpEq ⟨s, ⟨k, ep, ti, co, ta, un, ro, na⟩, wa, tg⟩ ⟨s', ⟨k', ep', ti', co', ta', un', ro', na'⟩, wa', tg'⟩) w := by
  have e : rcpEq ⟨s, ⟨k, ep, ti, co, ta, un, ro, na⟩, wa, tg⟩ ⟨s', ⟨k', ep', ti', co', ta', un', ro', na'⟩, wa', tg'⟩ = (s == s' && (recEq ⟨k, ep, ti, co, ta, un, ro, na⟩ ⟨k', ep', ti', co', ta', un', ro', na'⟩ && (decide (wa = wa') && (decide (tg = tg') && true)))) := by
    unfold rcpEq recEq
    rw [Bool.eq_iff_iff]
    simp
  rw [e]
  refine eq_struct (d := 9999) Tryz.underlying64 (by kernel_rfl) ?_
  refine eqf_int (k := .i64) (d := 9998) (by decide) (by kernel_rfl) (by kernel_rfl) Tryz.underlying3 ?_
  refine eqf_agg (by decide) (by kernel_rfl) (by kernel_rfl) (eqRec0 k ep ti co ta un ro na k' ep' ti' co' ta' un' ro' na' 9997 w) ?_
  refine eqf_str (d := 9998) (by decide) (by kernel_rfl) (by kernel_rfl) Tryz.underlying9 ?_
  refine eqf_str (d := 9998) (by decide) (by kernel_rfl) (by kernel_rfl) Tryz.underlying9 ?_
  exact eqf_nil
theorem eqRcpT (x : Rcp) (w : World) : (Op.equalIn 10000 64 (.agg x.cells.toArray) (.agg x.cells.toArray)).run Tryz.prog w = .ok true w := by
  have h := eqRcp0 x.seq x.r.kind x.r.epoch x.r.time x.r.count x.r.target x.r.till x.r.root x.r.name x.was x.tag x.seq x.r.kind x.r.epoch x.r.time x.r.count x.r.target x.r.till x.r.root x.r.name x.was x.tag w
  rw [show rcpEq _ _ = true from decide_eq_true rfl] at h
  exact h
end Go.Proofs.YtppdboadjefieaaGreat
namespace Go.Proofs.YtppdboadjefieaaGreat
open Go Go.RowKit Go.ChangeShapes Go.WideShapes Go.Deep

structure RcpFits (x : Rcp) : Prop where
  seq : Fits x.seq
  r : RecFits x.r

section
variable {H : Type} {enc : TypeId × Value → H} {w : World} {base : Nat} {spare : Nat → Bool} {held : Bool}
end
end Go.Proofs.YtppdboadjefieaaGreat

namespace Go.Proofs.YtppdboadjefieaaGreat
open Go Go.RowKit
set_option maxRecDepth 100000

section
variable {P : Program} {o : Oper} {a : Act} {w : World} {K : Act → World → Prop} {Q : Exit → Act → World → Prop}
theorem wp_string_bytes (src dst e : TypeId) (x : Operand) (l : List UInt8) (b off len cap : Nat)
    (hs : P.underlying src = some (.slice e)) (he : P.underlying e = some (.int .u8)) (hd : P.underlying dst = some .string)
    (hr : w.rangeAt b off (bytesV l)) (hl : len = l.length) (v : Value) (hv : str l = v)
    (ho : o.op = .convert src dst x) (hx : a.eval x = .slice (some ⟨b, off, none⟩) len cap)
    (h : K (a.put o.dst v) w) : o.wp P a w K Q := by
  subst hv
  unfold Oper.wp execOp
  simp only [ho, hx, Sem.run_bind]
  rw [run_convert_bytes_string w src dst e _ _ _ hs he hd, run_bytes_string w _ l len cap hl (fun j v hv => by rw [Addr.add_mid]; exact hr j v hv)]
  exact h
end
set_option maxHeartbeats 4000000 in
theorem hold_walk (s : ByteArray) (w : World) (h0 : 1 ≤ s.size) (h1 : s.size ≤ 4000) :
    Calls Tryz.prog 136 #[.string s] w fun e w' => (∃ z, e = .returned (.tuple #[.string z, .int .i64 0]) ∧ Txt z (holdL s.data.toList)) ∧ Below w.heap.size w w' := by
  have hs : (s.toList == ([] : List UInt8)) = false := by
    rw [beq_eq_false_iff_ne]; intro e
    have h9 : s.data.toList.length = 0 := by rw [← Lib.toList_data, e]; rfl
    have h8 : s.data.toList.length = s.size := rfl
    omega
  have hi : (s.size : Int) ≤ 4000 := by omega
  have H1 := Lib.hid h1
  clear h1 h0
  go_enter Tryz.func136, Tryz.ntmps136
  go_upto_region 3 with fail
  clear hs
  refine wp_region_held_drew (S := fun wx => True) (by kernel_rfl) (trivial) (fun hHeld => ?_)
  obtain ⟨wd, hwd⟩ : ∃ wd, wd = w.drew := ⟨_, rfl⟩
  have HBEwd : Hid (Below w.heap.size w wd) := Lib.hid (by rw [hwd]; exact (Below.refl _ _).drew)
  rw [← hwd]
  (try rw [← hwd] at hHeld)
  clear hwd
  refine wpAnyH_take (i := 2) (v := ?_) rfl (by kernel_rfl) (by kernel_rfl) (by kernel_rfl) (fun _ _ _ h => h) (Or.inl ⟨by rfl, ?_⟩) (by assumption) ?_
  rotate_left
  · intro w hSw; (try dsimp only at hSw); go_simp; first | done | with_reducible rfl
  (try simp only [Act.put, Array.getInternal_eq_getElem, List.getElem_toArray, List.getElem_cons_succ, List.getElem_cons_zero, List.setIfInBounds_toArray, List.set_cons_zero, List.set_cons_succ])
  refine wpAnyH_ready (rs := [0, 3]) (by kernel_rfl) (by simp) ?_
  refine AllReadyH.cons rfl (fun K hK => ?_) (AllReadyH.cons rfl (fun K hK => ?_) AllReadyH.nil)
  · go_simp
    obtain ⟨wa, hw4⟩ : ∃ w4, w4 = wd.alloc (Obj.cells #[.int .u8 3] 5) := ⟨_, rfl⟩
    rw [← hw4]
    have hb4 : Below wd.heap.size wd wa := by rw [hw4]; exact (Below.refl _ _).alloc (Nat.le_refl _) _
    have B4 : Blk wa wd.heap.size (bytesV [3]) 5 := by rw [hw4]; exact Blk.new wd _ _
    have HGwa := Lib.hid B4
    have HBEwa := Lib.hid (HBEwd.out.trans (hb4.mono HBEwd.out.size))
    clear hb4 B4 hw4
    (try go_wp2_with fail)
    refine hK.out _ _ (trivial) (fun hHeld2 => ?_)
    clear hK K hHeld
    have hHeld := hHeld2
    clear hHeld2
    (try simp only [Act.put, Array.getInternal_eq_getElem, List.getElem_toArray, List.getElem_cons_succ, List.getElem_cons_zero, List.setIfInBounds_toArray, List.set_cons_zero, List.set_cons_succ])
    refine wpAnyH_ready (rs := [1, 3]) (by kernel_rfl) (by simp) ?_
    refine AllReadyH.cons rfl (fun K hK => ?_) (AllReadyH.cons rfl (fun K hK => ?_) AllReadyH.nil)
    · refine wp_string_bytes 121 9 5 (.tmp 11) [3] wd.heap.size 0 1 1 Tryz.underlying121 Tryz.underlying5 Tryz.underlying9 HGwa.out.range rfl (.string ⟨#[3]⟩) rfl rfl rfl ?_
      refine hK.out _ _ (trivial) (fun hHeld2 => ?_)
      clear hK K hHeld
      have hHeld := hHeld2
      clear hHeld2
      (try simp only [Act.put, Array.getInternal_eq_getElem, List.getElem_toArray, List.getElem_cons_succ, List.getElem_cons_zero, List.setIfInBounds_toArray, List.set_cons_zero, List.set_cons_succ])
      refine wpAnyH_ready (rs := [3]) (by kernel_rfl) (by simp) ?_
      refine AllReadyH.cons rfl (fun K hK => ?_) AllReadyH.nil
      go_simp
      refine (otext_walk s _ (by have := H1.out; omega)).mono ?_
      rintro e wt ⟨t, rfl, tt, hbt⟩
      have HTT := Lib.hid tt
      have HBEwt := Lib.hid (HBEwa.out.trans (hbt.mono HBEwa.out.size))
      have hts : t.size = 4 + s.size := by rw [tt.size, textL_length]; rfl
      have HTS := Lib.hid hts
      skip
      clear tt hbt hts
      (try go_wp2_with fail)
      refine hK.out _ _ (trivial) (fun hHeld2 => ?_)
      clear hK K hHeld
      have hHeld := hHeld2
      clear hHeld2
      (try simp only [Act.put, Array.getInternal_eq_getElem, List.getElem_toArray, List.getElem_cons_succ, List.getElem_cons_zero, List.setIfInBounds_toArray, List.set_cons_zero, List.set_cons_succ])
      have hts : ¬ 9223372036854775807 < 1 + t.size := by have := HTS.out; have := H1.out; omega
      refine wpAnyH_take (i := 4) (v := ?_) rfl (by kernel_rfl) (by kernel_rfl) (by kernel_rfl) (fun _ _ _ h => h) (Or.inl ⟨by rfl, ?_⟩) (by assumption) ?_
      rotate_left
      · intro w hSw; (try dsimp only at hSw); go_simp; first | done | with_reducible rfl
      (try simp only [Act.put, Array.getInternal_eq_getElem, List.getElem_toArray, List.getElem_cons_succ, List.getElem_cons_zero, List.setIfInBounds_toArray, List.set_cons_zero, List.set_cons_succ])
      obtain ⟨s3, hs3⟩ : ∃ s3 : ByteArray, s3 = ByteArray.mk #[3] ++ t := ⟨_, rfl⟩
      rw [← hs3]
      have HS3 := Lib.hid (show s3.size = 1 + t.size by rw [hs3, ByteArray.size_append]; rfl)
      have HT3 := Lib.hid (show Txt s3 ([3] ++ textL s.data.toList) by rw [hs3]; exact (show Txt (ByteArray.mk #[3]) [3] from rfl).append HTT.out)
      clear hs3
      refine wpAnyH_ready (rs := [5]) (by kernel_rfl) (by simp) ?_
      refine AllReadyH.cons rfl (fun K hK => ?_) AllReadyH.nil
      go_simp
      refine (ofill_walk s3 4096 _ (by have := HS3.out; have := HTS.out; have := H1.out; omega) (by decide)).mono ?_
      rintro e wf ⟨z, rfl, tz, hbf⟩
      have HBEf := Lib.hid (HBEwt.out.trans (hbf.mono HBEwt.out.size))
      have HTZ := Lib.hid (show Txt z (holdL s.data.toList) from tz.cast (by unfold holdL; rw [show s3.data.toList = _ from HT3.out]))
      clear tz hbf hts
      (try go_wp2_with fail)
      refine hK.out _ _ (trivial) (fun hHeld2 => ?_)
      clear hK K hHeld
      have hHeld := hHeld2
      clear hHeld2
      (try simp only [Act.put, Array.getInternal_eq_getElem, List.getElem_toArray, List.getElem_cons_succ, List.getElem_cons_zero, List.setIfInBounds_toArray, List.set_cons_zero, List.set_cons_succ])
      refine wpAnyH_take (i := 6) (v := ?_) rfl (by kernel_rfl) (by kernel_rfl) (by kernel_rfl) (fun _ _ _ h => h) (Or.inl ⟨by rfl, ?_⟩) (by assumption) ?_
      rotate_left
      · intro w hSw; (try dsimp only at hSw); go_simp; first | done | with_reducible rfl
      (try simp only [Act.put, Array.getInternal_eq_getElem, List.getElem_toArray, List.getElem_cons_succ, List.getElem_cons_zero, List.setIfInBounds_toArray, List.set_cons_zero, List.set_cons_succ])
      refine wpAnyH_take (i := 7) (v := ?_) rfl (by kernel_rfl) (by kernel_rfl) (by kernel_rfl) (fun _ _ _ h => h) (Or.inl ⟨by rfl, ?_⟩) (by assumption) ?_
      rotate_left
      · intro w hSw; (try dsimp only at hSw); go_simp; first | done | with_reducible rfl
      (try simp only [Act.put, Array.getInternal_eq_getElem, List.getElem_toArray, List.getElem_cons_succ, List.getElem_cons_zero, List.setIfInBounds_toArray, List.set_cons_zero, List.set_cons_succ])
      refine wpAnyH_take (i := 8) (v := ?_) rfl (by kernel_rfl) (by kernel_rfl) (by kernel_rfl) (fun _ _ _ h => h) (Or.inl ⟨by rfl, ?_⟩) (by assumption) ?_
      rotate_left
      · intro w hSw; (try dsimp only at hSw); go_simp; first | done | with_reducible rfl
      (try simp only [Act.put, Array.getInternal_eq_getElem, List.getElem_toArray, List.getElem_cons_succ, List.getElem_cons_zero, List.setIfInBounds_toArray, List.set_cons_zero, List.set_cons_succ])
      refine wpAnyH_take (i := 9) (v := ?_) rfl (by kernel_rfl) (by kernel_rfl) (by kernel_rfl) (fun _ _ _ h => h) (Or.inl ⟨by rfl, ?_⟩) (by assumption) ?_
      rotate_left
      · intro w hSw; (try dsimp only at hSw); go_simp; first | done | with_reducible rfl
      (try simp only [Act.put, Array.getInternal_eq_getElem, List.getElem_toArray, List.getElem_cons_succ, List.getElem_cons_zero, List.setIfInBounds_toArray, List.set_cons_zero, List.set_cons_succ])
      refine wpAnyH_done (by kernel_rfl) ?_ _
      clear hHeld
      go_wp2_with fail
      go_ret2
      exact ⟨⟨z, rfl, HTZ.out⟩, HBEf.out⟩
    · go_simp
      refine (otext_walk s _ (by have := H1.out; omega)).mono ?_
      rintro e wt ⟨t, rfl, tt, hbt⟩
      have HTT := Lib.hid tt
      have HBEwt := Lib.hid (HBEwa.out.trans (hbt.mono HBEwa.out.size))
      have hts : t.size = 4 + s.size := by rw [tt.size, textL_length]; rfl
      have HTS := Lib.hid hts
      have HGwt := Lib.hid (HGwa.out.below hbt HGwa.out.lt)
      clear tt hbt hts
      (try go_wp2_with fail)
      refine hK.out _ _ (trivial) (fun hHeld2 => ?_)
      clear hK K hHeld
      have hHeld := hHeld2
      clear hHeld2
      (try simp only [Act.put, Array.getInternal_eq_getElem, List.getElem_toArray, List.getElem_cons_succ, List.getElem_cons_zero, List.setIfInBounds_toArray, List.set_cons_zero, List.set_cons_succ])
      refine wpAnyH_ready (rs := [1]) (by kernel_rfl) (by simp) ?_
      refine AllReadyH.cons rfl (fun K hK => ?_) AllReadyH.nil
      refine wp_string_bytes 121 9 5 (.tmp 11) [3] wd.heap.size 0 1 1 Tryz.underlying121 Tryz.underlying5 Tryz.underlying9 HGwt.out.range rfl (.string ⟨#[3]⟩) rfl rfl rfl ?_
      refine hK.out _ _ (trivial) (fun hHeld2 => ?_)
      clear hK K hHeld
      have hHeld := hHeld2
      clear hHeld2
      (try simp only [Act.put, Array.getInternal_eq_getElem, List.getElem_toArray, List.getElem_cons_succ, List.getElem_cons_zero, List.setIfInBounds_toArray, List.set_cons_zero, List.set_cons_succ])
      have hts : ¬ 9223372036854775807 < 1 + t.size := by have := HTS.out; have := H1.out; omega
      refine wpAnyH_take (i := 4) (v := ?_) rfl (by kernel_rfl) (by kernel_rfl) (by kernel_rfl) (fun _ _ _ h => h) (Or.inl ⟨by rfl, ?_⟩) (by assumption) ?_
      rotate_left
      · intro w hSw; (try dsimp only at hSw); go_simp; first | done | with_reducible rfl
      (try simp only [Act.put, Array.getInternal_eq_getElem, List.getElem_toArray, List.getElem_cons_succ, List.getElem_cons_zero, List.setIfInBounds_toArray, List.set_cons_zero, List.set_cons_succ])
      obtain ⟨s3, hs3⟩ : ∃ s3 : ByteArray, s3 = ByteArray.mk #[3] ++ t := ⟨_, rfl⟩
      rw [← hs3]
      have HS3 := Lib.hid (show s3.size = 1 + t.size by rw [hs3, ByteArray.size_append]; rfl)
      have HT3 := Lib.hid (show Txt s3 ([3] ++ textL s.data.toList) by rw [hs3]; exact (show Txt (ByteArray.mk #[3]) [3] from rfl).append HTT.out)
      clear hs3
      refine wpAnyH_ready (rs := [5]) (by kernel_rfl) (by simp) ?_
      refine AllReadyH.cons rfl (fun K hK => ?_) AllReadyH.nil
      go_simp
      refine (ofill_walk s3 4096 _ (by have := HS3.out; have := HTS.out; have := H1.out; omega) (by decide)).mono ?_
      rintro e wf ⟨z, rfl, tz, hbf⟩
      have HBEf := Lib.hid (HBEwt.out.trans (hbf.mono HBEwt.out.size))
      have HTZ := Lib.hid (show Txt z (holdL s.data.toList) from tz.cast (by unfold holdL; rw [show s3.data.toList = _ from HT3.out]))
      clear tz hbf hts
      (try go_wp2_with fail)
      refine hK.out _ _ (trivial) (fun hHeld2 => ?_)
      clear hK K hHeld
      have hHeld := hHeld2
      clear hHeld2
      (try simp only [Act.put, Array.getInternal_eq_getElem, List.getElem_toArray, List.getElem_cons_succ, List.getElem_cons_zero, List.setIfInBounds_toArray, List.set_cons_zero, List.set_cons_succ])
      refine wpAnyH_take (i := 6) (v := ?_) rfl (by kernel_rfl) (by kernel_rfl) (by kernel_rfl) (fun _ _ _ h => h) (Or.inl ⟨by rfl, ?_⟩) (by assumption) ?_
      rotate_left
      · intro w hSw; (try dsimp only at hSw); go_simp; first | done | with_reducible rfl
      (try simp only [Act.put, Array.getInternal_eq_getElem, List.getElem_toArray, List.getElem_cons_succ, List.getElem_cons_zero, List.setIfInBounds_toArray, List.set_cons_zero, List.set_cons_succ])
      refine wpAnyH_take (i := 7) (v := ?_) rfl (by kernel_rfl) (by kernel_rfl) (by kernel_rfl) (fun _ _ _ h => h) (Or.inl ⟨by rfl, ?_⟩) (by assumption) ?_
      rotate_left
      · intro w hSw; (try dsimp only at hSw); go_simp; first | done | with_reducible rfl
      (try simp only [Act.put, Array.getInternal_eq_getElem, List.getElem_toArray, List.getElem_cons_succ, List.getElem_cons_zero, List.setIfInBounds_toArray, List.set_cons_zero, List.set_cons_succ])
      refine wpAnyH_take (i := 8) (v := ?_) rfl (by kernel_rfl) (by kernel_rfl) (by kernel_rfl) (fun _ _ _ h => h) (Or.inl ⟨by rfl, ?_⟩) (by assumption) ?_
      rotate_left
      · intro w hSw; (try dsimp only at hSw); go_simp; first | done | with_reducible rfl
      (try simp only [Act.put, Array.getInternal_eq_getElem, List.getElem_toArray, List.getElem_cons_succ, List.getElem_cons_zero, List.setIfInBounds_toArray, List.set_cons_zero, List.set_cons_succ])
      refine wpAnyH_take (i := 9) (v := ?_) rfl (by kernel_rfl) (by kernel_rfl) (by kernel_rfl) (fun _ _ _ h => h) (Or.inl ⟨by rfl, ?_⟩) (by assumption) ?_
      rotate_left
      · intro w hSw; (try dsimp only at hSw); go_simp; first | done | with_reducible rfl
      (try simp only [Act.put, Array.getInternal_eq_getElem, List.getElem_toArray, List.getElem_cons_succ, List.getElem_cons_zero, List.setIfInBounds_toArray, List.set_cons_zero, List.set_cons_succ])
      refine wpAnyH_done (by kernel_rfl) ?_ _
      clear hHeld
      go_wp2_with fail
      go_ret2
      exact ⟨⟨z, rfl, HTZ.out⟩, HBEf.out⟩
  · go_simp
    refine (otext_walk s _ (by have := H1.out; omega)).mono ?_
    rintro e wt ⟨t, rfl, tt, hbt⟩
    have HTT := Lib.hid tt
    have HBEwt := Lib.hid (HBEwd.out.trans (hbt.mono HBEwd.out.size))
    have hts : t.size = 4 + s.size := by rw [tt.size, textL_length]; rfl
    have HTS := Lib.hid hts
    skip
    clear tt hbt hts
    (try go_wp2_with fail)
    refine hK.out _ _ (trivial) (fun hHeld2 => ?_)
    clear hK K hHeld
    have hHeld := hHeld2
    clear hHeld2
    (try simp only [Act.put, Array.getInternal_eq_getElem, List.getElem_toArray, List.getElem_cons_succ, List.getElem_cons_zero, List.setIfInBounds_toArray, List.set_cons_zero, List.set_cons_succ])
    refine wpAnyH_ready (rs := [0]) (by kernel_rfl) (by simp) ?_
    refine AllReadyH.cons rfl (fun K hK => ?_) AllReadyH.nil
    go_simp
    obtain ⟨wa, hw4⟩ : ∃ w4, w4 = wt.alloc (Obj.cells #[.int .u8 3] 5) := ⟨_, rfl⟩
    rw [← hw4]
    have hb4 : Below wt.heap.size wt wa := by rw [hw4]; exact (Below.refl _ _).alloc (Nat.le_refl _) _
    have B4 : Blk wa wt.heap.size (bytesV [3]) 5 := by rw [hw4]; exact Blk.new wt _ _
    have HGwa := Lib.hid B4
    have HBEwa := Lib.hid (HBEwt.out.trans (hb4.mono HBEwt.out.size))
    clear hb4 B4 hw4
    (try go_wp2_with fail)
    refine hK.out _ _ (trivial) (fun hHeld2 => ?_)
    clear hK K hHeld
    have hHeld := hHeld2
    clear hHeld2
    (try simp only [Act.put, Array.getInternal_eq_getElem, List.getElem_toArray, List.getElem_cons_succ, List.getElem_cons_zero, List.setIfInBounds_toArray, List.set_cons_zero, List.set_cons_succ])
    refine wpAnyH_ready (rs := [1]) (by kernel_rfl) (by simp) ?_
    refine AllReadyH.cons rfl (fun K hK => ?_) AllReadyH.nil
    refine wp_string_bytes 121 9 5 (.tmp 11) [3] wt.heap.size 0 1 1 Tryz.underlying121 Tryz.underlying5 Tryz.underlying9 HGwa.out.range rfl (.string ⟨#[3]⟩) rfl rfl rfl ?_
    refine hK.out _ _ (trivial) (fun hHeld2 => ?_)
    clear hK K hHeld
    have hHeld := hHeld2
    clear hHeld2
    (try simp only [Act.put, Array.getInternal_eq_getElem, List.getElem_toArray, List.getElem_cons_succ, List.getElem_cons_zero, List.setIfInBounds_toArray, List.set_cons_zero, List.set_cons_succ])
    have hts : ¬ 9223372036854775807 < 1 + t.size := by have := HTS.out; have := H1.out; omega
    refine wpAnyH_take (i := 4) (v := ?_) rfl (by kernel_rfl) (by kernel_rfl) (by kernel_rfl) (fun _ _ _ h => h) (Or.inl ⟨by rfl, ?_⟩) (by assumption) ?_
    rotate_left
    · intro w hSw; (try dsimp only at hSw); go_simp; first | done | with_reducible rfl
    (try simp only [Act.put, Array.getInternal_eq_getElem, List.getElem_toArray, List.getElem_cons_succ, List.getElem_cons_zero, List.setIfInBounds_toArray, List.set_cons_zero, List.set_cons_succ])
    obtain ⟨s3, hs3⟩ : ∃ s3 : ByteArray, s3 = ByteArray.mk #[3] ++ t := ⟨_, rfl⟩
    rw [← hs3]
    have HS3 := Lib.hid (show s3.size = 1 + t.size by rw [hs3, ByteArray.size_append]; rfl)
    have HT3 := Lib.hid (show Txt s3 ([3] ++ textL s.data.toList) by rw [hs3]; exact (show Txt (ByteArray.mk #[3]) [3] from rfl).append HTT.out)
    clear hs3
    refine wpAnyH_ready (rs := [5]) (by kernel_rfl) (by simp) ?_
    refine AllReadyH.cons rfl (fun K hK => ?_) AllReadyH.nil
    go_simp
    refine (ofill_walk s3 4096 _ (by have := HS3.out; have := HTS.out; have := H1.out; omega) (by decide)).mono ?_
    rintro e wf ⟨z, rfl, tz, hbf⟩
    have HBEf := Lib.hid (HBEwa.out.trans (hbf.mono HBEwa.out.size))
    have HTZ := Lib.hid (show Txt z (holdL s.data.toList) from tz.cast (by unfold holdL; rw [show s3.data.toList = _ from HT3.out]))
    clear tz hbf hts
    (try go_wp2_with fail)
    refine hK.out _ _ (trivial) (fun hHeld2 => ?_)
    clear hK K hHeld
    have hHeld := hHeld2
    clear hHeld2
    (try simp only [Act.put, Array.getInternal_eq_getElem, List.getElem_toArray, List.getElem_cons_succ, List.getElem_cons_zero, List.setIfInBounds_toArray, List.set_cons_zero, List.set_cons_succ])
    refine wpAnyH_take (i := 6) (v := ?_) rfl (by kernel_rfl) (by kernel_rfl) (by kernel_rfl) (fun _ _ _ h => h) (Or.inl ⟨by rfl, ?_⟩) (by assumption) ?_
    rotate_left
    · intro w hSw; (try dsimp only at hSw); go_simp; first | done | with_reducible rfl
    (try simp only [Act.put, Array.getInternal_eq_getElem, List.getElem_toArray, List.getElem_cons_succ, List.getElem_cons_zero, List.setIfInBounds_toArray, List.set_cons_zero, List.set_cons_succ])
    refine wpAnyH_take (i := 7) (v := ?_) rfl (by kernel_rfl) (by kernel_rfl) (by kernel_rfl) (fun _ _ _ h => h) (Or.inl ⟨by rfl, ?_⟩) (by assumption) ?_
    rotate_left
    · intro w hSw; (try dsimp only at hSw); go_simp; first | done | with_reducible rfl
    (try simp only [Act.put, Array.getInternal_eq_getElem, List.getElem_toArray, List.getElem_cons_succ, List.getElem_cons_zero, List.setIfInBounds_toArray, List.set_cons_zero, List.set_cons_succ])
    refine wpAnyH_take (i := 8) (v := ?_) rfl (by kernel_rfl) (by kernel_rfl) (by kernel_rfl) (fun _ _ _ h => h) (Or.inl ⟨by rfl, ?_⟩) (by assumption) ?_
    rotate_left
    · intro w hSw; (try dsimp only at hSw); go_simp; first | done | with_reducible rfl
    (try simp only [Act.put, Array.getInternal_eq_getElem, List.getElem_toArray, List.getElem_cons_succ, List.getElem_cons_zero, List.setIfInBounds_toArray, List.set_cons_zero, List.set_cons_succ])
    refine wpAnyH_take (i := 9) (v := ?_) rfl (by kernel_rfl) (by kernel_rfl) (by kernel_rfl) (fun _ _ _ h => h) (Or.inl ⟨by rfl, ?_⟩) (by assumption) ?_
    rotate_left
    · intro w hSw; (try dsimp only at hSw); go_simp; first | done | with_reducible rfl
    (try simp only [Act.put, Array.getInternal_eq_getElem, List.getElem_toArray, List.getElem_cons_succ, List.getElem_cons_zero, List.setIfInBounds_toArray, List.set_cons_zero, List.set_cons_succ])
    refine wpAnyH_done (by kernel_rfl) ?_ _
    clear hHeld
    go_wp2_with fail
    go_ret2
    exact ⟨⟨z, rfl, HTZ.out⟩, HBEf.out⟩
end Go.Proofs.YtppdboadjefieaaGreat

