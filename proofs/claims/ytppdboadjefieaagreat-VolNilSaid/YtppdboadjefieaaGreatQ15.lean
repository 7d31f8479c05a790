/- Walks of chain.Said, Tag and the documents' Said, Tag (chapter 20). Walks of chain.Tag, Begin, Follow, and the documents' Tag (chapter 20). Walks of sha.Sum of nothing, chain.Sum; the example of chapter 20. What a statement's parameters hand to its walk: a record by value. What a statement's parameters hand to its walk: a row of sealed records. Walk of the documents' Few (chapter 20). Rows of sealed records of the call's own (chapter 20). A volume's state, and what becomes of it where some blocks turn (chapter 26). A journal's steps, at a disk that has power: one write; two writes and a flush; a flush (chapter 25). -/
import Derived.Test.YtppdboadjefieaaGreatQ14
import Derived.Test.YtppdboadjefieaaGreatQ6
import Derived.Test.YtppdboadjefieaaGreatQ5
import Derived.Test.YtppdboadjefieaaGreatQ2
import Derived.Lib.SmallJoins
import Derived.Deep.Fields
import Derived.Deep.QuietTactic
import Derived.BigQuiet
import Derived.Test.YtppdboadjefieaaGreatQ8
import Derived.Test.YtppdboadjefieaaGreatQ4
set_option linter.unusedSimpArgs false
set_option linter.unusedVariables false
namespace Go.Proofs.YtppdboadjefieaaGreat
open Go Go.RowKit

def saidC (was : List UInt8) (seq : Int) (r : Rec) : List UInt8 := was ++ beBytes 4 seq.toNat ++ recPut r
def saidCOk (was : ByteArray) (seq : Int) (r : Rec) : Prop := was.size = 32 ∧ 0 ≤ seq ∧ seq ≤ 4294967295 ∧ recOk r = true
instance (was : ByteArray) (seq : Int) (r : Rec) : Decidable (saidCOk was seq r) := by unfold saidCOk; infer_instance
theorem recPut_length {r : Rec} (h : recOk r = true) : (recPut r).length ≤ 85 := by
  have := recOk_facts h
  have e1 : r.root.data.toList.length = r.root.size := rfl
  have e2 : r.name.data.toList.length = r.name.size := rfl
  unfold recPut
  rw [List.length_append, List.length_append, packL_length_rec, textL_length, textL_length]
  omega

theorem oput4_walk (n : Int) (w : World) (hf : Fits n) :
    Calls Tryz.prog 235 #[.int .i64 n, .int .i64 4] w fun e w' => Ends (0 ≤ n ∧ n ≤ 4294967295) (beBytes 4 n.toNat) 2 e ∧ Below w.heap.size w w' := by
  by_cases c1 : 0 ≤ n ∧ n ≤ 4294967295
  · obtain ⟨m, rfl⟩ : ∃ m : Nat, n = (m : Int) := ⟨n.toNat, by omega⟩
    refine (oput m 4 w (by omega) (by omega) (by omega) (fun _ => by show m < 4294967296; omega)).mono ?_
    rintro e w1 ⟨r, rfl, tr, hb⟩
    exact ⟨.inl ⟨c1, r, rfl, tr⟩, hb⟩
  · by_cases c2 : n < 0
    · go_enter Tryz.func235, Tryz.ntmps235
      go_wp2_with fail
      go_ret2
      exact ⟨.inr ⟨c1, rfl⟩, Below.refl _ _⟩
    · have d2 : 0 ≤ n := by omega
      have d3 : 4294967296 ≤ n := by omega
      have d4 : (0 : Int) < n / 4294967296 := by omega
      go_enter Tryz.func235, Tryz.ntmps235
      go_wp2_with fail
      go_ret2
      exact ⟨.inr ⟨by omega, rfl⟩, Below.refl _ _⟩

set_option maxHeartbeats 1000000 in
theorem csaid_walk (was : ByteArray) (seq : Int) (r : Rec) (w : World) (hroot : r.root.size ≤ 1048576) (hname : r.name.size ≤ 1048576) (hf : Fits r.epoch) (hs : Fits seq) :
    Calls Tryz.prog 313 #[.string was, .int .i64 seq, r.v] w fun e w' => Ends (saidCOk was seq r) (saidC was.data.toList seq r) 2 e ∧ Below w.heap.size w w' := by
  by_cases c1 : 0 ≤ seq ∧ seq ≤ 4294967295
  rotate_left
  · go_enter Tryz.func313, Tryz.ntmps313
    go_wp2_with ((with_reducible refine wpList_box_new 62 (.tmp 2) r.cells (some 5) ?hgd ?ho ?hd ?hx ?_); (case hgd | ho | hd | hx => rfl); (intro b w0 l0 B0 e0 z0))
    refine (oput4_walk seq _ hs).mono ?_
    rintro e w1 ⟨he, hb1⟩
    have he := he.no c1
    subst he
    go_wp2_with fail
    go_ret2
    exact ⟨.inr ⟨fun h => c1 ⟨h.2.1, h.2.2.1⟩, rfl⟩, (e0.mono l0).trans (hb1.mono (by omega))⟩
  by_cases c2 : was.size = 32
  rotate_left
  · have d2 : ¬ (was.size : Int) = 32 := by omega
    go_enter Tryz.func313, Tryz.ntmps313
    go_wp2_with ((with_reducible refine wpList_box_new 62 (.tmp 2) r.cells (some 5) ?hgd ?ho ?hd ?hx ?_); (case hgd | ho | hd | hx => rfl); (intro b w0 l0 B0 e0 z0))
    refine (oput4_walk seq _ hs).mono ?_
    rintro e w1 ⟨he, hb1⟩
    obtain ⟨q, rfl, tq⟩ := he.yes c1
    clear he
    go_wp2_with fail
    go_ret2
    exact ⟨.inr ⟨fun h => c2 h.1, rfl⟩, (e0.mono l0).trans (hb1.mono (by omega))⟩
  have d2 : (was.size : Int) = 32 := by omega
  have hws : was.size ≤ 32 := by omega
  go_enter Tryz.func313, Tryz.ntmps313
  go_wp2_with ((with_reducible refine wpList_box_new 62 (.tmp 2) r.cells (some 5) ?hgd ?ho ?hd ?hx ?_); (case hgd | ho | hd | hx => rfl); (intro b w0 l0 B0 e0 z0))
  refine (oput4_walk seq _ hs).mono ?_
  rintro e w1 ⟨he, hb1⟩
  obtain ⟨q, rfl, tq⟩ := he.yes c1
  clear he
  have sq : q.size ≤ 4 := by rw [tq.size, beBytes_length]; omega
  have HB := Lib.hid (B0.below hb1 z0); clear B0
  go_wp2_with ((with_reducible refine wpList_load_blk 62 (.tmp 5) b r.cells 62 _ HB.out Tryz.underlying62 rfl rsizeRec ?hgd ?ho ?hx ?_); (case hgd | ho | hx => rfl))
  refine (recput_walk r _ hroot hname hf).mono ?_
  rintro e w2 ⟨⟨hok, p, rfl, tp⟩ | ⟨hno, rfl⟩, hb2⟩
  · have sp : p.size ≤ 85 := by rw [tp.size]; exact recPut_length hok
    have HK := Lib.hid hok; clear hok
    go_wp2_with fail
    go_ret2
    refine ⟨.inl ⟨⟨c2, c1.1, c1.2, HK.out⟩, _, rfl, ((Txt.self was).append tq).append tp⟩, (e0.mono l0).trans ((bt hb1 hb2).mono (by omega))⟩
  · have HK := Lib.hid hno; clear hno
    go_wp2_with fail
    go_ret2
    exact ⟨.inr ⟨fun h => by have := h.2.2.2; rw [HK.out] at this; exact absurd this (by decide), rfl⟩, (e0.mono l0).trans ((bt hb1 hb2).mono (by omega))⟩

end Go.Proofs.YtppdboadjefieaaGreat
namespace Go.Proofs.YtppdboadjefieaaGreat
open Go Go.RowKit

def tagC (key was : List UInt8) (seq : Int) (r : Rec) : List UInt8 := mac (madeL key [109, 97, 99] []) (saidC was seq r)
theorem tagC_length (key was : List UInt8) (seq : Int) (r : Rec) : (tagC key was seq r).length = 32 := mac_length _ _

set_option maxHeartbeats 1000000 in
theorem ctag_walk (key was : ByteArray) (seq : Int) (r : Rec) (w : World) (hroot : r.root.size ≤ 1048576) (hname : r.name.size ≤ 1048576) (hf : Fits r.epoch) (hs : Fits seq) :
    Calls Tryz.prog 226 #[.string key, .string was, .int .i64 seq, r.v] w fun e w' => Ends (key.size = 32 ∧ saidCOk was seq r) (tagC key.data.toList was.data.toList seq r) 2 e ∧ Below w.heap.size w w' := by
  go_enter Tryz.func226, Tryz.ntmps226
  go_wp2_with ((with_reducible refine wpList_box_new 62 (.tmp 3) r.cells (some 7) ?hgd ?ho ?hd ?hx ?_); (case hgd | ho | hd | hx => rfl); (intro b w0 l0 B0 e0 z0))
  refine (macKey_walk key _).mono ?_
  rintro e w1 ⟨⟨c1, q, rfl, tq⟩ | ⟨c1, rfl⟩, hb1⟩
  · have C1 := Lib.hid c1; clear c1
    have sq : q.size ≤ 32 := by rw [tq.size, madeL_length]; omega
    have HB := Lib.hid (B0.below hb1 z0); clear B0
    go_wp2_with ((with_reducible refine wpList_load_blk 62 (.tmp 7) b r.cells 62 _ HB.out Tryz.underlying62 rfl rsizeRec ?hgd ?ho ?hx ?_); (case hgd | ho | hx => rfl))
    refine (csaid_walk was seq r _ hroot hname hf hs).mono ?_
    rintro e w2 ⟨⟨c2, p, rfl, tp⟩ | ⟨c2, rfl⟩, hb2⟩
    · have sp : p.size ≤ 121 := by
        rw [tp.size]; unfold saidC
        rw [List.length_append, List.length_append, beBytes_length]
        have := recPut_length c2.2.2.2
        have e1 : was.data.toList.length = was.size := rfl
        have := c2.1
        omega
      have C2 := Lib.hid c2; clear c2
      go_wp2_with fail
      refine (mac_walk q p _ (by omega) (by omega)).mono ?_
      rintro e w3 ⟨t, rfl, tt, hb3⟩
      go_wp2_with fail
      go_ret2
      refine ⟨.inl ⟨⟨C1.out, C2.out⟩, t, rfl, tt.cast ?_⟩, (e0.mono l0).trans ((bt hb1 (bt hb2 hb3)).mono (by omega))⟩
      rw [show q.data.toList = _ from tq, show p.data.toList = _ from tp]; rfl
    · have C2 := Lib.hid c2; clear c2
      go_wp2_with fail
      go_ret2
      exact ⟨.inr ⟨fun h => C2.out h.2, rfl⟩, (e0.mono l0).trans ((bt hb1 hb2).mono (by omega))⟩
  · have C1 := Lib.hid c1; clear c1
    go_wp2_with fail
    go_ret2
    exact ⟨.inr ⟨fun h => C1.out h.1, rfl⟩, (e0.mono l0).trans (hb1.mono (by omega))⟩

theorem begin_walk (w : World) :
    Calls Tryz.prog 227 #[] w fun e w' => ∃ r, e = .returned (.string r) ∧ Txt r (List.replicate 32 0) ∧ Below w.heap.size w w' := by
  go_enter Tryz.func227, Tryz.ntmps227
  go_wp2_with fail
  refine (repeat0 32 _ (by omega)).mono ?_
  rintro e w1 ⟨r, rfl, tr, hb1⟩
  go_wp2_with fail
  go_ret
  exact ⟨r, rfl, tr, hb1⟩

end Go.Proofs.YtppdboadjefieaaGreat
namespace Go.Proofs.YtppdboadjefieaaGreat
open Go Go.RowKit

set_option maxRecDepth 100000 in
theorem sum_none (p : Option Addr) (c : Nat) (w : World) :
    Calls Tryz.prog 236 #[.slice p 0 c] w fun e w' => ∃ r, e = .returned (.string r) ∧ Txt r (sha []) ∧ Below w.heap.size w w' := by
  go_enter Tryz.func236, Tryz.ntmps236
  go_wp2_with fail
  refine (new_walk _).mono ?_
  rintro e w1 ⟨b, rfl, l1, B1, hb1, z1⟩
  have h0 : Hid (HashAt w1 b []) := ⟨⟨#[]⟩, rfl, B1⟩
  clear B1
  go_wp2_with fail
  go_loopw [9] (fun i wr => i = .int .i64 0 ∧ w1 = wr) (fun i _ => 0)
  case atStart => exact ⟨rfl, rfl⟩
  case round =>
    obtain ⟨rfl, rfl⟩ := hrel
    go_wp2_with fail
    refine (hsum_walk b [] w1 h0.out (by simp)).mono ?_
    rintro e w2 ⟨r, rfl, tr, hb2⟩
    go_wp2_with fail
    go_ret
    exact ⟨r, rfl, tr, hb1.trans (hb2.mono hb1.size)⟩

structure Sld where
  r : Rec
  tag : ByteArray
def Sld.cells (x : Sld) : List Value := [.int .i64 x.r.kind, .int .i64 x.r.epoch, .int .i64 x.r.time, .int .i64 x.r.count, .int .i64 x.r.target, .int .i64 x.r.till, .string x.r.root, .string x.r.name, .string x.tag]
def SldRow (w : World) (v : Value) (l : List Sld) : Prop :=
  (l = [] ∧ ∃ (p : Option Addr) (c : Nat), v = .slice p 0 c) ∨
  ∃ g o c, v = .slice (some ⟨g, o, none⟩) l.length c ∧ l.length ≤ c ∧ g < w.heap.size ∧ ∀ (j : Nat) (x : Sld), l[j]? = some x → w.rangeAt g (o + j * 9) x.cells
theorem SldRow.shape {w : World} {v : Value} {l : List Sld} (h : SldRow w v l) : ∃ (p : Option Addr) (c : Nat), v = .slice p l.length c := by
  rcases h with ⟨rfl, p, c, rfl⟩ | ⟨g, o, c, rfl, _⟩
  · exact ⟨p, c, rfl⟩
  · exact ⟨_, c, rfl⟩
theorem sld_cells {w : World} {g o : Nat} {x : Sld} (h : w.rangeAt g o x.cells) :
    w.cell? ⟨g, o, none⟩ = some (.int .i64 x.r.kind) ∧ w.cell? ⟨g, o + 1, none⟩ = some (.int .i64 x.r.epoch) ∧ w.cell? ⟨g, o + 2, none⟩ = some (.int .i64 x.r.time) ∧ w.cell? ⟨g, o + 3, none⟩ = some (.int .i64 x.r.count) ∧
    w.cell? ⟨g, o + 4, none⟩ = some (.int .i64 x.r.target) ∧ w.cell? ⟨g, o + 5, none⟩ = some (.int .i64 x.r.till) ∧ w.cell? ⟨g, o + 6, none⟩ = some (.string x.r.root) ∧ w.cell? ⟨g, o + 7, none⟩ = some (.string x.r.name) ∧ w.cell? ⟨g, o + 8, none⟩ = some (.string x.tag) :=
  ⟨h 0 _ rfl, h 1 _ rfl, h 2 _ rfl, h 3 _ rfl, h 4 _ rfl, h 5 _ rfl, h 6 _ rfl, h 7 _ rfl, h 8 _ rfl⟩

end Go.Proofs.YtppdboadjefieaaGreat
namespace Go.Proofs.YtppdboadjefieaaGreat
open Go Go.RowKit Go.ChangeShapes Go.WideShapes Go.Deep

structure RecFits (r : Rec) : Prop where
  kind : Fits r.kind
  epoch : Fits r.epoch
  time : Fits r.time
  count : Fits r.count
  target : Fits r.target
  till : Fits r.till

section
variable {H : Type} {enc : TypeId × Value → H} {w : World} {base : Nat} {spare : Nat → Bool} {held : Bool}
end
end Go.Proofs.YtppdboadjefieaaGreat
namespace Go.Proofs.YtppdboadjefieaaGreat
open Go Go.RowKit Go.ChangeShapes Go.WideShapes Go.Deep

structure SldsIn (w : World) (v : Value) (l : List Sld) : Prop where
  row : SldRow w v l
  fits : ∀ (j : Nat) (x : Sld), l[j]? = some x → RecFits x.r

section
variable {H : Type} {enc : TypeId × Value → H} {w : World} {base : Nat} {spare : Nat → Bool} {held : Bool}
end
end Go.Proofs.YtppdboadjefieaaGreat
namespace Go.Proofs.YtppdboadjefieaaGreat
open Go Go.RowKit

end Go.Proofs.YtppdboadjefieaaGreat

namespace Go.Proofs.YtppdboadjefieaaGreat
open Go Go.RowKit

def flatS (ys : List Sld) : List Value := ys.flatMap Sld.cells
theorem flatS_snoc (ys : List Sld) (y : Sld) : flatS (ys ++ [y]) = flatS ys ++ y.cells := by simp [flatS]
theorem flatS_at (ys : List Sld) : ∀ (j : Nat) (y : Sld), ys[j]? = some y → ∀ (i : Nat) (u : Value), y.cells[i]? = some u → (flatS ys)[j * 9 + i]? = some u := by
  induction ys with
  | nil => intro j y h; simp at h
  | cons a r ih =>
    intro j y h i u hu
    have ha : a.cells.length = 9 := rfl
    show (a.cells ++ flatS r)[_]? = _
    cases j with
    | zero =>
      simp at h
      subst h
      have := (List.getElem?_eq_some_iff.1 hu).1
      rw [List.getElem?_append_left (by omega), Nat.zero_mul, Nat.zero_add]
      exact hu
    | succ j =>
      rw [List.getElem?_append_right (by omega), ha, show (j + 1) * 9 + i - 9 = j * 9 + i by omega]
      exact ih j y (by simpa using h) i u hu
theorem SldRow.own {w : World} {base n : Nat} {v : Value} {xs : List Sld} (h : w.ownsRow base 98 9 v n (flatS xs)) (hn : n = xs.length) : SldRow w v xs := by
  subst hn
  by_cases h0 : xs = []
  · subst h0
    exact .inl ⟨rfl, own_nil h⟩
  · obtain ⟨g, cap, z, rfl, hc, hb, hk⟩ := own_split h (List.length_pos_iff.2 h0)
    refine .inr ⟨g, 0, cap, rfl, hc, hk.lt, fun j x hx i u hu => ?_⟩
    refine hk.cell ?_
    have h1 := flatS_at xs j x hx i u hu
    rw [Nat.zero_add, List.getElem?_append_left (List.getElem?_eq_some_iff.1 h1).1]
    exact h1
theorem infoSld : (Tryz.prog.info? 98).map (fun i => (i.zero, i.size, i.bytes)) = some (some (.agg (Sld.cells ⟨Rec.zero, ⟨#[]⟩⟩).toArray), 9, 96) := by kernel_rfl
structure SldAt (w : World) (g o n c : Nat) (l : List Sld) : Prop where
  len : n = l.length
  cap : n ≤ c
  lt : g < w.heap.size
  at_ : ∀ (j : Nat) (x : Sld), l[j]? = some x → w.rangeAt g (o + j * 9) x.cells
theorem SldAt.below {w w' : World} {g o n c : Nat} {l : List Sld} (h : SldAt w g o n c l) {B : Nat} (hb : Below B w w') (hB : w.heap.size ≤ B) : SldAt w' g o n c l :=
  ⟨h.len, h.cap, by have := hb.size; have := h.lt; omega, fun j x hx i u hu => by rw [hb.cell (by show g < B; have := h.lt; omega)]; exact h.at_ j x hx i u hu⟩
theorem SldAt.take {w : World} {g o n c : Nat} {l : List Sld} (h : SldAt w g o n c l) {k : Nat} (hk : k ≤ n) : SldRow w (.slice (some ⟨g, o, none⟩) k c) (l.take k) := by
  have h1 := h.len
  have h2 := h.cap
  refine .inr ⟨g, o, c, by rw [List.length_take, Nat.min_eq_left (by omega)], by rw [List.length_take]; omega, h.lt, fun j x hx => ?_⟩
  by_cases hj : j < k
  · rw [List.getElem?_take_of_lt hj] at hx; exact h.at_ j x hx
  · rw [List.getElem?_eq_none (by rw [List.length_take]; omega)] at hx; simp at hx
theorem SldAt.row {w : World} {g o n c : Nat} {l : List Sld} (h : SldAt w g o n c l) : SldRow w (.slice (some ⟨g, o, none⟩) n c) l := by
  have := h.take (k := n) (Nat.le_refl _)
  rwa [List.take_of_length_le (by have := h.len; omega)] at this
end Go.Proofs.YtppdboadjefieaaGreat

namespace Go.Proofs.YtppdboadjefieaaGreat
open Go Go.RowKit Go.Maps Go.WideMaps
set_option maxRecDepth 100000

def Ty (w : World) (b : Nat) (t : TypeId) : Prop := ∃ cs fz, w.heap[b]? = some (.cells cs t fz)
def TyIn (w : World) (S : List Nat) (T : List TypeId) : Prop := ∀ x, x ∈ S → ∃ t, t ∈ T ∧ Ty w x t
theorem Blk.ty {w : World} {b : Nat} {cs : List Value} {t : TypeId} (h : Blk w b cs t) : Ty w b t := ⟨_, _, h⟩
theorem own_ty {w : World} {base size n : Nat} {e : TypeId} {v : Value} {xs : List Value} (h : w.ownsRow base e size v n xs) {k : Nat} (hk : v.ownBlock = some k) : Ty w k e := by
  rcases h.2 with ⟨rfl, _⟩ | ⟨g, cap, cur, rfl, _, hg, _⟩
  · cases hk
  · injection hk with hk; subst hk; exact ⟨_, _, hg⟩
theorem Ty.eq {w : World} {b : Nat} {t t' : TypeId} (h : Ty w b t) (k : Ty w b t') : t = t' := by
  obtain ⟨_, _, h⟩ := h
  obtain ⟨_, _, k⟩ := k
  rw [h] at k
  injection k with k
  injection k
theorem Ty.notin {w : World} {b : Nat} {t : TypeId} {S : List Nat} {T : List TypeId} (h : Ty w b t) (hS : TyIn w S T) (ht : t ∉ T) : b ∉ S := fun hm => by
  obtain ⟨t', h1, h2⟩ := hS b hm
  exact ht (h.eq h2 ▸ h1)
theorem map_notin {w : World} {k : TypeId} {R : Value → Option (DataW Unit × List MemPlace)} {b n : Nat} {D : DataW Unit} {S : List Nat} {T : List TypeId} (h : w.ownsMap Tryz.prog k R b n D) (hS : TyIn w S T) : b ∉ S := fun hm => by
  obtain ⟨t', _, _, _, h2⟩ := hS b hm
  obtain ⟨es, clock, h1, _⟩ := h
  rw [h1] at h2
  cases h2
theorem maps_notin {w : World} {m1 m2 m3 n : Nat} {U L G : DataW Unit} {S : List Nat} {T : List TypeId} (h : BookMaps w m1 m2 m3 n U L G) (hS : TyIn w S T) : ∀ x, x = m1 ∨ x = m2 ∨ x = m3 → x ∉ S := by
  rintro x (rfl | rfl | rfl)
  · exact map_notin h.u hS
  · exact map_notin h.l hS
  · exact map_notin h.g hS
theorem DiskAt.tyIn {w : World} {db : Nat} {d : DiskD} (h : DiskAt w db d) : TyIn w (d.foot db) [124, 9, 129] := by
  intro x hx
  simp only [DiskD.foot, List.mem_cons, List.mem_append, Option.mem_toList, Option.mem_def] at hx
  rcases hx with rfl | hx | hx
  · exact ⟨_, by simp, h.blk.ty⟩
  · exact ⟨_, by simp, own_ty h.rb hx⟩
  · exact ⟨_, by simp, own_ty h.rc hx⟩
theorem TyIn.one {w : World} {b : Nat} {t : TypeId} (h : Ty w b t) : TyIn w [b] [t] := by intro x hx; simp at hx; subst hx; exact ⟨t, by simp, h⟩
theorem TyIn.cons {w : World} {b : Nat} {t : TypeId} {S : List Nat} {T : List TypeId} (h : Ty w b t) (k : TyIn w S T) : TyIn w (b :: S) (t :: T) := by
  intro x hx
  rcases List.mem_cons.1 hx with rfl | hx
  · exact ⟨t, by simp, h⟩
  · obtain ⟨t', h1, h2⟩ := k x hx
    exact ⟨t', List.mem_cons_of_mem _ h1, h2⟩
theorem TyIn.own {w : World} {base size n : Nat} {e : TypeId} {v : Value} {xs : List Value} (h : w.ownsRow base e size v n xs) : TyIn w v.ownBlock.toList [e] := by
  intro x hx
  exact ⟨e, by simp, own_ty h (by simpa using hx)⟩
theorem foot_notin {w : World} {db : Nat} {d : DiskD} {S : List Nat} {T : List TypeId} (h : DiskAt w db d) (hS : TyIn w S T) (ht : ∀ t, t ∈ T → t ≠ 124 ∧ t ≠ 9 ∧ t ≠ 129) : ∀ x, x ∈ d.foot db → x ∉ S := by
  intro x hx hm
  obtain ⟨t, h1, h2⟩ := hS x hm
  obtain ⟨t', h3, h4⟩ := h.tyIn x hx
  obtain rfl := h2.eq h4
  have := ht t h1
  simp at h3
  rcases h3 with h3 | h3 | h3
  · exact this.1 h3
  · exact this.2.1 h3
  · exact this.2.2 h3
structure VolD where
  key : ByteArray
  data : ByteArray
  last : SupD
  used : Int
  vers : List VersD
  sealed : List Sld
  first : Int
  epoch : Int
  now : Int
  clock : Int
  U : DataW Unit
  L : DataW Unit
  G : DataW Unit
  n : Nat
  d : DiskD
structure VolI where
  vb : Nat
  jb : Nat
  sb : Nat
  db : Nat
  xb : Nat
  bb : Nat
  c2 : Nat
  cb : Nat
  m1 : Nat
  m2 : Nat
  m3 : Nat
  xv : Value
  sv : Value
  rv : Value
def volCells (i : VolI) (key data : ByteArray) : List Value := [.pointer (some ⟨i.jb, 0, none⟩), .string key, .string data, .pointer (some ⟨i.xb, 0, none⟩), i.sv, .pointer (some ⟨i.bb, 0, none⟩), .pointer (some ⟨i.cb, 0, none⟩), i.rv]
structure VolAt (w : World) (i : VolI) (v : VolD) : Prop where
  vol : Blk w i.vb (volCells i v.key v.data) 50
  jour : Blk w i.jb (jourCells (.pointer (some ⟨i.sb, 0, none⟩)) i.db v.last) 137
  space : Blk w i.sb (spaceCells v.last.geo v.used) 215
  disk : DiskAt w i.db v.d
  index : Blk w i.xb [.bool true, i.xv] 297
  vers : w.ownsRow 0 154 3 i.xv v.vers.length (flatV v.vers)
  sealed : w.ownsRow 0 98 9 i.sv v.sealed.length (flatS v.sealed)
  book : Blk w i.bb (bookCells i.c2 v.first v.epoch i.m1 i.m2 i.m3) 213
  bclock : Blk w i.c2 [.bool true, .int .i64 v.now] 224
  clock : Blk w i.cb [.bool true, .int .i64 v.clock] 224
  maps : BookMaps w i.m1 i.m2 i.m3 v.n v.U v.L v.G
  two : i.c2 ≠ i.cb
  rp : ∃ p, i.rv = .pointer p
theorem VolAt.below {w w' : World} {i : VolI} {v : VolD} (h : VolAt w i v) (hb : Below w.heap.size w w') : VolAt w' i v := by
  have t : Turned [] w w' := Turned.of_below hb (Nat.le_refl _)
  have hS : TyIn w [] [] := fun x hx => by cases hx
  exact ⟨t.blk h.vol (h.vol.ty.notin hS (by decide)), t.blk h.jour (h.jour.ty.notin hS (by decide)), t.blk h.space (h.space.ty.notin hS (by decide)), h.disk.turned t (foot_notin h.disk hS (by decide)), t.blk h.index (h.index.ty.notin hS (by decide)), own_turned h.vers t (fun k hk => (own_ty h.vers hk).notin hS (by decide)), own_turned h.sealed t (fun k hk => (own_ty h.sealed hk).notin hS (by decide)), t.blk h.book (h.book.ty.notin hS (by decide)), t.blk h.bclock (h.bclock.ty.notin hS (by decide)), t.blk h.clock (h.clock.ty.notin hS (by decide)), h.maps.turned t (maps_notin h.maps hS), h.two, h.rp⟩
def VolI.foot (i : VolI) (d : DiskD) : List Nat := [i.vb, i.jb, i.sb, i.xb, i.bb, i.c2, i.cb, i.m1, i.m2, i.m3] ++ (d.foot i.db ++ (i.xv.ownBlock.toList ++ i.sv.ownBlock.toList))
structure VolTo (w w' : World) (i : VolI) (v : VolD) (i' : VolI) (v' : VolD) : Prop where
  at' : VolAt w' i' v'
  turned : Turned (i.foot v.d) w w'
  foot : ∀ x, x ∈ i'.foot v'.d → x ∈ i.foot v.d ∨ w.heap.size ≤ x
theorem VolTo.trans {w1 w2 w3 : World} {i i' i'' : VolI} {v v' v'' : VolD} (h : VolTo w1 w2 i v i' v') (k : VolTo w2 w3 i' v' i'' v'') : VolTo w1 w3 i v i'' v'' :=
  ⟨k.at', h.turned.on k.turned h.foot, fun x hx => (k.foot x hx).elim (fun h1 => h.foot x h1) (fun h1 => .inr (Nat.le_trans h.turned.size h1))⟩
theorem VolTo.below {w1 w2 w3 : World} {i i' : VolI} {v v' : VolD} (h : VolTo w1 w2 i v i' v') (hb : Below w2.heap.size w2 w3) : VolTo w1 w3 i v i' v' :=
  ⟨h.at'.below hb, h.turned.trans (Turned.of_below hb (Nat.le_refl _)), h.foot⟩
theorem VolTo.ahead {w1 w2 w3 : World} {i i' : VolI} {v v' : VolD} (hb : Below w1.heap.size w1 w2) (h : VolTo w2 w3 i v i' v') : VolTo w1 w3 i v i' v' :=
  ⟨h.at', (Turned.of_below hb (Nat.le_refl _)).trans h.turned, fun x hx => (h.foot x hx).elim .inl (fun h1 => .inr (Nat.le_trans hb.size h1))⟩
theorem VolAt.disk_to {w w' : World} {i : VolI} {v : VolD} {d' : DiskD} (h : VolAt w i v) (ht : DiskTo w w' i.db v.d d') : VolTo w w' i v i { v with d := d' } := by
  have t := ht.turned
  have hS := h.disk.tyIn
  refine ⟨⟨t.blk h.vol (h.vol.ty.notin hS (by decide)), t.blk h.jour (h.jour.ty.notin hS (by decide)), t.blk h.space (h.space.ty.notin hS (by decide)), ht.at', t.blk h.index (h.index.ty.notin hS (by decide)), own_turned h.vers t (fun k hk => (own_ty h.vers hk).notin hS (by decide)), own_turned h.sealed t (fun k hk => (own_ty h.sealed hk).notin hS (by decide)), t.blk h.book (h.book.ty.notin hS (by decide)), t.blk h.bclock (h.bclock.ty.notin hS (by decide)), t.blk h.clock (h.clock.ty.notin hS (by decide)), h.maps.turned t (maps_notin h.maps hS), h.two, h.rp⟩, t.mono (fun x hx => by simp only [VolI.foot, List.mem_append]; exact .inr (.inl hx)), fun x hx => ?_⟩
  simp only [VolI.foot, List.mem_append] at hx ⊢
  rcases hx with hx | hx | hx
  · exact .inl (.inl hx)
  · exact (ht.foot x hx).imp (fun h => .inr (.inl h)) id
  · exact .inl (.inr (.inr hx))
theorem VolAt.jdisk {w w' : World} {i : VolI} {v : VolD} {d' : DiskD} {s : SupD} (h : VolAt w i v) (t : Turned (i.jb :: v.d.foot i.db) w w') (hg : s.geo = v.last.geo) (hd : DiskAt w' i.db d') (hj : Blk w' i.jb (jourCells (.pointer (some ⟨i.sb, 0, none⟩)) i.db s) 137) (hf : ∀ x, x ∈ d'.foot i.db → x ∈ v.d.foot i.db ∨ w.heap.size ≤ x) : VolTo w w' i v i { v with d := d', last := s } := by
  have hS := TyIn.cons h.jour.ty h.disk.tyIn
  have hsp : Blk w' i.sb (spaceCells s.geo v.used) 215 := by rw [hg]; exact t.blk h.space (h.space.ty.notin hS (by decide))
  refine ⟨⟨t.blk h.vol (h.vol.ty.notin hS (by decide)), hj, hsp, hd, t.blk h.index (h.index.ty.notin hS (by decide)), own_turned h.vers t (fun k hk => (own_ty h.vers hk).notin hS (by decide)), own_turned h.sealed t (fun k hk => (own_ty h.sealed hk).notin hS (by decide)), t.blk h.book (h.book.ty.notin hS (by decide)), t.blk h.bclock (h.bclock.ty.notin hS (by decide)), t.blk h.clock (h.clock.ty.notin hS (by decide)), h.maps.turned t (maps_notin h.maps hS), h.two, h.rp⟩, t.mono (fun x hx => ?_), fun x hx => ?_⟩
  · simp only [VolI.foot, List.mem_append]
    rcases List.mem_cons.1 hx with rfl | hx
    · exact .inl (by simp)
    · exact .inr (.inl hx)
  · simp only [VolI.foot, List.mem_append] at hx ⊢
    rcases hx with hx | hx | hx
    · exact .inl (.inl hx)
    · exact (hf x hx).imp (fun h => .inr (.inl h)) id
    · exact .inl (.inr (.inr hx))
theorem VolAt.take {w w' : World} {i : VolI} {v : VolD} {n : Int} (h : VolAt w i v) (t : Turned [i.sb] w w') (hs : Blk w' i.sb (spaceCells v.last.geo n) 215) : VolTo w w' i v i { v with used := n } := by
  have hS := TyIn.one h.space.ty
  exact ⟨⟨t.blk h.vol (h.vol.ty.notin hS (by decide)), t.blk h.jour (h.jour.ty.notin hS (by decide)), hs, h.disk.turned t (foot_notin h.disk hS (by decide)), t.blk h.index (h.index.ty.notin hS (by decide)), own_turned h.vers t (fun k hk => (own_ty h.vers hk).notin hS (by decide)), own_turned h.sealed t (fun k hk => (own_ty h.sealed hk).notin hS (by decide)), t.blk h.book (h.book.ty.notin hS (by decide)), t.blk h.bclock (h.bclock.ty.notin hS (by decide)), t.blk h.clock (h.clock.ty.notin hS (by decide)), h.maps.turned t (maps_notin h.maps hS), h.two, h.rp⟩, t.mono (fun x hx => by simp at hx; subst hx; simp [VolI.foot]), fun x hx => .inl hx⟩
theorem VolAt.idx {w w' : World} {i : VolI} {v : VolD} {xv : Value} {l : List VersD} (h : VolAt w i v) (t : Turned (i.xb :: i.xv.ownBlock.toList) w w') (hx : Blk w' i.xb [.bool true, xv] 297) (hr : w'.ownsRow 0 154 3 xv l.length (flatV l)) (hn : ∀ k, xv.ownBlock = some k → i.xv.ownBlock = some k ∨ w.heap.size ≤ k) : VolTo w w' i v { i with xv := xv } { v with vers := l } := by
  have hS := TyIn.cons h.index.ty (TyIn.own h.vers)
  refine ⟨⟨t.blk h.vol (h.vol.ty.notin hS (by decide)), t.blk h.jour (h.jour.ty.notin hS (by decide)), t.blk h.space (h.space.ty.notin hS (by decide)), h.disk.turned t (foot_notin h.disk hS (by decide)), hx, hr, own_turned h.sealed t (fun k hk => (own_ty h.sealed hk).notin hS (by decide)), t.blk h.book (h.book.ty.notin hS (by decide)), t.blk h.bclock (h.bclock.ty.notin hS (by decide)), t.blk h.clock (h.clock.ty.notin hS (by decide)), h.maps.turned t (maps_notin h.maps hS), h.two, h.rp⟩, t.mono (fun x hx => ?_), fun x hx => ?_⟩
  · rcases List.mem_cons.1 hx with rfl | hx
    · simp [VolI.foot]
    · simp only [VolI.foot, List.mem_append]; exact .inr (.inr (.inl hx))
  · simp only [VolI.foot, List.mem_append] at hx ⊢
    rcases hx with hx | hx | hx | hx
    · exact .inl (.inl hx)
    · exact .inl (.inr (.inl hx))
    · exact (hn x (by simpa using hx)).imp (fun h => .inr (.inr (.inl (by simpa using h)))) id
    · exact .inl (.inr (.inr (.inr hx)))
theorem VolAt.closed {w w' : World} {i : VolI} {v : VolD} {ep now : Int} (h : VolAt w i v) (t : Turned [i.bb, i.c2] w w') (hb : Blk w' i.bb (bookCells i.c2 v.first ep i.m1 i.m2 i.m3) 213) (hc : Blk w' i.c2 [.bool true, .int .i64 now] 224) : VolTo w w' i v i { v with epoch := ep, now := now } := by
  have hS := TyIn.cons h.book.ty (TyIn.one h.bclock.ty)
  have hcl : Blk w' i.cb [.bool true, .int .i64 v.clock] 224 := t.blk h.clock (by
    intro hm
    simp at hm
    rcases hm with hm | hm
    · exact absurd (show 224 = 213 from (hm ▸ h.clock.ty).eq h.book.ty) (by decide)
    · exact h.two hm.symm)
  exact ⟨⟨t.blk h.vol (h.vol.ty.notin hS (by decide)), t.blk h.jour (h.jour.ty.notin hS (by decide)), t.blk h.space (h.space.ty.notin hS (by decide)), h.disk.turned t (foot_notin h.disk hS (by decide)), t.blk h.index (h.index.ty.notin hS (by decide)), own_turned h.vers t (fun k hk => (own_ty h.vers hk).notin hS (by decide)), own_turned h.sealed t (fun k hk => (own_ty h.sealed hk).notin hS (by decide)), hb, hc, hcl, h.maps.turned t (maps_notin h.maps hS), h.two, h.rp⟩, t.mono (fun x hx => by simp at hx; rcases hx with rfl | rfl <;> simp [VolI.foot]), fun x hx => .inl hx⟩
theorem VolAt.own {w w' : World} {i : VolI} {v : VolD} {key : ByteArray} {sv : Value} {l : List Sld} (h : VolAt w i v) (t : Turned (i.vb :: i.sv.ownBlock.toList) w w') (hv : Blk w' i.vb (volCells { i with sv := sv } key v.data) 50) (hr : w'.ownsRow 0 98 9 sv l.length (flatS l)) (hn : ∀ k, sv.ownBlock = some k → i.sv.ownBlock = some k ∨ w.heap.size ≤ k) : VolTo w w' i v { i with sv := sv } { v with key := key, sealed := l } := by
  have hS := TyIn.cons h.vol.ty (TyIn.own h.sealed)
  refine ⟨⟨hv, t.blk h.jour (h.jour.ty.notin hS (by decide)), t.blk h.space (h.space.ty.notin hS (by decide)), h.disk.turned t (foot_notin h.disk hS (by decide)), t.blk h.index (h.index.ty.notin hS (by decide)), own_turned h.vers t (fun k hk => (own_ty h.vers hk).notin hS (by decide)), hr, t.blk h.book (h.book.ty.notin hS (by decide)), t.blk h.bclock (h.bclock.ty.notin hS (by decide)), t.blk h.clock (h.clock.ty.notin hS (by decide)), h.maps.turned t (maps_notin h.maps hS), h.two, h.rp⟩, t.mono (fun x hx => ?_), fun x hx => ?_⟩
  · rcases List.mem_cons.1 hx with rfl | hx
    · simp [VolI.foot]
    · simp only [VolI.foot, List.mem_append]; exact .inr (.inr (.inr hx))
  · simp only [VolI.foot, List.mem_append] at hx ⊢
    rcases hx with hx | hx | hx | hx
    · exact .inl (.inl hx)
    · exact .inl (.inr (.inl hx))
    · exact .inl (.inr (.inr (.inl hx)))
    · exact (hn x (by simpa using hx)).imp (fun h => .inr (.inr (.inr (by simpa using h)))) id
def volNew (key data : ByteArray) (gen clock n lbas first ep : Int) (d : DiskD) : VolD := ⟨key, data, ⟨gen, 0, ep, clock, ⟨n, lbas, first⟩⟩, 0, [], [], first, ep, 0, clock, .map [], .map [], .map [], 0, d⟩
def volINew (vb jb sb db xb bb cb c2 m1 m2 m3 : Nat) (ro : Option Addr) : VolI := ⟨vb, jb, sb, db, xb, bb, c2, cb, m1, m2, m3, .slice none 0 0, .slice none 0 0, .pointer ro⟩
theorem VolNew.at {w : World} {lo vb jb sb db xb bb cb c2 m1 m2 m3 : Nat} {ro : Option Addr} {key data : ByteArray} {gen clock n lbas first ep : Int} {d : DiskD} (h : VolNew w lo vb jb sb db xb bb cb c2 m1 m2 m3 ro key data gen clock n lbas first ep d) : VolAt w (volINew vb jb sb db xb bb cb c2 m1 m2 m3 ro) (volNew key data gen clock n lbas first ep d) :=
  ⟨h.vol, h.jour, h.space, h.disk, h.index, World.ownsRow_nil w 0 154 3, World.ownsRow_nil w 0 98 9, h.book, h.bclock, h.clock, h.maps, by show c2 ≠ cb; have := h.o; omega, ro, rfl⟩
theorem VolNew.foot_ge {w : World} {lo lo' vb jb sb db xb bb cb c2 m1 m2 m3 : Nat} {ro : Option Addr} {key data : ByteArray} {gen clock n lbas first ep : Int} {d : DiskD} (h : VolNew w lo vb jb sb db xb bb cb c2 m1 m2 m3 ro key data gen clock n lbas first ep d) (hl : lo' ≤ lo) (hd : ∀ x, x ∈ d.foot db → lo' ≤ x) : ∀ x, x ∈ (volINew vb jb sb db xb bb cb c2 m1 m2 m3 ro).foot d → lo' ≤ x := by
  intro x hx
  have ho := h.o
  have hm := h.om
  simp only [VolI.foot, volINew, Value.ownBlock, List.mem_append, List.mem_cons, List.not_mem_nil, or_false, Option.mem_toList, Option.mem_def] at hx
  rcases hx with (rfl | rfl | rfl | rfl | rfl | rfl | rfl | rfl | rfl | rfl) | hx | hx | hx <;> first | omega | exact hd x hx | cases hx
end Go.Proofs.YtppdboadjefieaaGreat

namespace Go.Proofs.YtppdboadjefieaaGreat
open Go Go.RowKit
set_option maxRecDepth 100000

set_option maxHeartbeats 2000000 in
theorem jstepsW_walk (jb db g c N m : Nat) (p3a p4a p5a : Nat) (ia : Int) (sa : ByteArray) (t : TypeId) (d : DiskD) (w : World) (h : DiskAt w db d) (hrow : Blk w g [.func (.func 237) #[] #[.pointer (some ⟨p3a, 0, none⟩), .pointer (some ⟨p4a, 0, none⟩), .pointer (some ⟨p5a, 0, none⟩)]] t) (hj : w.cell? ⟨jb, 1, none⟩ = some (.pointer (some ⟨db, 0, none⟩))) (hjl : jb < w.heap.size) (hsta : StepAt w jb p3a p4a p5a ia sa)
    (hn : ∀ x, x = g ∨ x = jb ∨ x = p3a ∨ x = p4a ∨ x = p5a → x ∉ d.foot db)
    (hcm : Calm d N m) (hm : m + 1 ≤ 4096) (hN : N ≤ 1024) (hia : 0 ≤ ia ∧ ia < (N : Int)) (hsa : sa.size = 4096) :
    Calls Tryz.prog 147 #[.pointer (some ⟨jb, 0, none⟩), .slice (some ⟨g, 0, none⟩) 1 c] w fun e w' => e = .returned (.int .i64 0) ∧ ∃ d', (∃ cv, d' = { d with cv := cv, cs := d.cs ++ [(ia, sa)] }) ∧ DiskTo w w' db d d' := by
  have HH := Lib.hid h
  have HR := Lib.hid hrow
  have HJ := Lib.hid hj
  have HSTa := Lib.hid hsta
  have HIa := Lib.hid hia
  have HSa := Lib.hid hsa
  have HN := Lib.hid hn
  have HCM := Lib.hid hcm
  have HMM := Lib.hid (And.intro hm hN)
  have HJL := Lib.hid hjl
  clear h hrow hj hn hcm hm hN hjl hsta hia hsa
  go_enter Tryz.func147, Tryz.ntmps147
  go_wp2_with fail
  go_loopw [10] (fun v wr => ∃ (k : Nat) (d' : DiskD), k ≤ 1 ∧ v = .int .i64 k ∧ ((k = 0 → d' = d) ∧ (k = 1 → (∃ cv, d' = { d with cv := cv, cs := d.cs ++ [(ia, sa)] }))) ∧ Calm d' N (m + 1) ∧ (k = 0 → Calm d' N m) ∧ (k = 1 → Calm d' N (m + 1)) ∧ DiskTo w wr db d d') (fun v _ => 1 - (intOf v).toNat)
  case atStart => exact ⟨0, d, by omega, rfl, ⟨fun _ => rfl, fun h => (by cases h)⟩, HCM.out.mono (by omega), fun _ => HCM.out, fun h => (by cases h), DiskTo.refl HH.out⟩
  case round =>
    obtain ⟨k, d', hk, rfl, hstage, hca, hc0, hc1, hto⟩ := hrel
    have HT := Lib.hid hto
    have HSG := Lib.hid hstage
    have HCA := Lib.hid hca
    have HC0 := Lib.hid hc0
    have HC1 := Lib.hid hc1
    clear hto hstage hca hc0 hc1
    have HRr := Lib.hid (HT.out.turned.blk HR.out (HN.out g (by simp)))
    have HJr := Lib.hid (show wr.cell? ⟨jb, 1, none⟩ = some (.pointer (some ⟨db, 0, none⟩)) by rw [HT.out.turned.cell HJL.out (HN.out jb (by simp))]; exact HJ.out)
    have HSTra := Lib.hid (HSTa.out.turned HT.out.turned (HN.out p3a (by simp)) (HN.out p4a (by simp)) (HN.out p5a (by simp)))
    match k, hk with
    | 0, hk =>
      have ck := HRr.out.cell (i := 0) rfl
      go_wp2_with fail
      obtain rfl : d' = d := HSG.out.1 (by trivial)
      refine (jwrite1_walk jb db p3a p4a p5a _ ia sa _ HT.out.at' HJr.out HSTra.out HCA.out.up HCA.out.left (by have := (HC0.out (by trivial)).few; have := HMM.out.1; omega) HIa.out.1 (by rw [HCA.out.len]; exact HIa.out.2) HSa.out).mono ?_
      rintro e w2 ⟨rfl, cv', ht⟩
      have HT2 := Lib.hid ht
      clear ht
      go_wp2_with fail
      go_roundw
      case rel => exact ⟨1, _, by omega, rfl, ⟨fun h => (by cases h), fun _ => ⟨cv', rfl⟩⟩, ((HC0.out (by trivial)).put HIa.out.1 HIa.out.2 cv' sa).mono (by omega), fun h => (by cases h), fun _ => ((HC0.out (by trivial)).put HIa.out.1 HIa.out.2 cv' sa), HT.out.trans HT2.out⟩
      case measure => simp [intOf]
    | 1, hk =>
      go_wp2_with fail
      go_ret
      first
        | exact ⟨rfl, d', HSG.out.2 (by trivial), HT.out⟩
        | (have he := HSG.out.2 (by trivial); subst he; first | exact ⟨rfl, HT.out⟩ | exact ⟨rfl, by have ht := HT.out; simp only [List.append_assoc, List.cons_append, List.nil_append] at ht; exact ht⟩)
set_option maxHeartbeats 2000000 in
theorem jstepsWWF_walk (jb db g c N m : Nat) (p3a p4a p5a : Nat) (ia : Int) (sa : ByteArray) (p3b p4b p5b : Nat) (ib : Int) (sb : ByteArray) (t : TypeId) (d : DiskD) (w : World) (h : DiskAt w db d) (hrow : Blk w g [.func (.func 237) #[] #[.pointer (some ⟨p3a, 0, none⟩), .pointer (some ⟨p4a, 0, none⟩), .pointer (some ⟨p5a, 0, none⟩)], .func (.func 237) #[] #[.pointer (some ⟨p3b, 0, none⟩), .pointer (some ⟨p4b, 0, none⟩), .pointer (some ⟨p5b, 0, none⟩)], .func (.func 151) #[.pointer (some ⟨db, 0, none⟩)] #[]] t) (hj : w.cell? ⟨jb, 1, none⟩ = some (.pointer (some ⟨db, 0, none⟩))) (hjl : jb < w.heap.size) (hsta : StepAt w jb p3a p4a p5a ia sa) (hstb : StepAt w jb p3b p4b p5b ib sb)
    (hn : ∀ x, x = g ∨ x = jb ∨ x = p3a ∨ x = p4a ∨ x = p5a ∨ x = p3b ∨ x = p4b ∨ x = p5b → x ∉ d.foot db)
    (hcm : Calm d N m) (hm : m + 2 ≤ 4096) (hN : N ≤ 1024) (hia : 0 ≤ ia ∧ ia < (N : Int)) (hsa : sa.size = 4096) (hib : 0 ≤ ib ∧ ib < (N : Int)) (hsb : sb.size = 4096) :
    Calls Tryz.prog 147 #[.pointer (some ⟨jb, 0, none⟩), .slice (some ⟨g, 0, none⟩) 3 c] w fun e w' => e = .returned (.int .i64 0) ∧ ∃ d', d' = ({ d with cs := d.cs ++ [(ia, sa)] ++ [(ib, sb)] } : DiskD).flushed ∧ DiskTo w w' db d d' := by
  have HH := Lib.hid h
  have HR := Lib.hid hrow
  have HJ := Lib.hid hj
  have HSTa := Lib.hid hsta
  have HIa := Lib.hid hia
  have HSa := Lib.hid hsa
  have HSTb := Lib.hid hstb
  have HIb := Lib.hid hib
  have HSb := Lib.hid hsb
  have HN := Lib.hid hn
  have HCM := Lib.hid hcm
  have HMM := Lib.hid (And.intro hm hN)
  have HJL := Lib.hid hjl
  clear h hrow hj hn hcm hm hN hjl hsta hia hsa hstb hib hsb
  go_enter Tryz.func147, Tryz.ntmps147
  go_wp2_with fail
  go_loopw [10] (fun v wr => ∃ (k : Nat) (d' : DiskD), k ≤ 3 ∧ v = .int .i64 k ∧ ((k = 0 → d' = d) ∧ (k = 1 → (∃ cv, d' = { d with cv := cv, cs := d.cs ++ [(ia, sa)] })) ∧ (k = 2 → (∃ cv, d' = { d with cv := cv, cs := d.cs ++ [(ia, sa)] ++ [(ib, sb)] })) ∧ (k = 3 → d' = ({ d with cs := d.cs ++ [(ia, sa)] ++ [(ib, sb)] } : DiskD).flushed)) ∧ Calm d' N (m + 2) ∧ (k = 0 → Calm d' N m) ∧ (k = 1 → Calm d' N (m + 1))∧ (k = 2 → Calm d' N (m + 2)) ∧ DiskTo w wr db d d') (fun v _ => 3 - (intOf v).toNat)
  case atStart => exact ⟨0, d, by omega, rfl, ⟨fun _ => rfl, fun h => (by cases h), fun h => (by cases h), fun h => (by cases h)⟩, HCM.out.mono (by omega), fun _ => HCM.out, fun h => (by cases h), fun h => (by cases h), DiskTo.refl HH.out⟩
  case round =>
    obtain ⟨k, d', hk, rfl, hstage, hca, hc0, hc1, hc2, hto⟩ := hrel
    have HT := Lib.hid hto
    have HSG := Lib.hid hstage
    have HCA := Lib.hid hca
    have HC0 := Lib.hid hc0
    have HC1 := Lib.hid hc1
    have HC2 := Lib.hid hc2
    clear hto hstage hca hc0 hc1 hc2
    have HRr := Lib.hid (HT.out.turned.blk HR.out (HN.out g (by simp)))
    have HJr := Lib.hid (show wr.cell? ⟨jb, 1, none⟩ = some (.pointer (some ⟨db, 0, none⟩)) by rw [HT.out.turned.cell HJL.out (HN.out jb (by simp))]; exact HJ.out)
    have HSTra := Lib.hid (HSTa.out.turned HT.out.turned (HN.out p3a (by simp)) (HN.out p4a (by simp)) (HN.out p5a (by simp)))
    have HSTrb := Lib.hid (HSTb.out.turned HT.out.turned (HN.out p3b (by simp)) (HN.out p4b (by simp)) (HN.out p5b (by simp)))
    match k, hk with
    | 0, hk =>
      have ck := HRr.out.cell (i := 0) rfl
      go_wp2_with fail
      obtain rfl : d' = d := HSG.out.1 (by trivial)
      refine (jwrite1_walk jb db p3a p4a p5a _ ia sa _ HT.out.at' HJr.out HSTra.out HCA.out.up HCA.out.left (by have := (HC0.out (by trivial)).few; have := HMM.out.1; omega) HIa.out.1 (by rw [HCA.out.len]; exact HIa.out.2) HSa.out).mono ?_
      rintro e w2 ⟨rfl, cv', ht⟩
      have HT2 := Lib.hid ht
      clear ht
      go_wp2_with fail
      go_roundw
      case rel => exact ⟨1, _, by omega, rfl, ⟨fun h => (by cases h), fun _ => ⟨cv', rfl⟩, fun h => (by cases h), fun h => (by cases h)⟩, ((HC0.out (by trivial)).put HIa.out.1 HIa.out.2 cv' sa).mono (by omega), fun h => (by cases h), fun _ => ((HC0.out (by trivial)).put HIa.out.1 HIa.out.2 cv' sa), fun h => (by cases h), HT.out.trans HT2.out⟩
      case measure => simp [intOf]
    | 1, hk =>
      have ck := HRr.out.cell (i := 1) rfl
      go_wp2_with fail
      obtain ⟨cv0, rfl⟩ := HSG.out.2.1 (by trivial)
      refine (jwrite1_walk jb db p3b p4b p5b _ ib sb _ HT.out.at' HJr.out HSTrb.out HCA.out.up HCA.out.left (by have := (HC1.out (by trivial)).few; have := HMM.out.1; omega) HIb.out.1 (by rw [HCA.out.len]; exact HIb.out.2) HSb.out).mono ?_
      rintro e w2 ⟨rfl, cv', ht⟩
      have HT2 := Lib.hid ht
      clear ht
      go_wp2_with fail
      go_roundw
      case rel => exact ⟨2, _, by omega, rfl, ⟨fun h => (by cases h), fun h => (by cases h), fun _ => ⟨cv', rfl⟩, fun h => (by cases h)⟩, ((HC1.out (by trivial)).put HIb.out.1 HIb.out.2 cv' sb).mono (by omega), fun h => (by cases h), fun h => (by cases h), fun _ => ((HC1.out (by trivial)).put HIb.out.1 HIb.out.2 cv' sb), HT.out.trans HT2.out⟩
      case measure => simp [intOf]
    | 2, hk =>
      have ck := HRr.out.cell (i := 2) rfl
      go_wp2_with fail
      obtain ⟨cv0, rfl⟩ := HSG.out.2.2.1 (by trivial)
      refine (dflush_walk db _ _ HT.out.at' HCA.out.up HCA.out.left (by have := HCA.out.few; have := HMM.out.1; omega) (by have := HCA.out.len; have := HMM.out.2; omega) HCA.out.hin).mono ?_
      rintro e w2 ⟨rfl, ht⟩
      have HT2 := Lib.hid ht
      clear ht
      go_wp2_with fail
      go_roundw
      case rel => exact ⟨3, _, by omega, rfl, ⟨fun h => (by cases h), fun h => (by cases h), fun h => (by cases h), fun _ => rfl⟩, HCA.out.flushed.mono (Nat.zero_le _), fun h => (by cases h), fun h => (by cases h), fun h => (by cases h), HT.out.trans HT2.out⟩
      case measure => simp [intOf]
    | 3, hk =>
      go_wp2_with fail
      go_ret
      first
        | exact ⟨rfl, d', HSG.out.2.2.2 (by trivial), HT.out⟩
        | (have he := HSG.out.2.2.2 (by trivial); subst he; first | exact ⟨rfl, HT.out⟩ | exact ⟨rfl, by have ht := HT.out; simp only [List.append_assoc, List.cons_append, List.nil_append] at ht; exact ht⟩)
set_option maxHeartbeats 2000000 in
theorem jstepsWF_walk (jb db g c N m : Nat) (p3a p4a p5a : Nat) (ia : Int) (sa : ByteArray) (t : TypeId) (d : DiskD) (w : World) (h : DiskAt w db d) (hrow : Blk w g [.func (.func 237) #[] #[.pointer (some ⟨p3a, 0, none⟩), .pointer (some ⟨p4a, 0, none⟩), .pointer (some ⟨p5a, 0, none⟩)], .func (.func 151) #[.pointer (some ⟨db, 0, none⟩)] #[]] t) (hj : w.cell? ⟨jb, 1, none⟩ = some (.pointer (some ⟨db, 0, none⟩))) (hjl : jb < w.heap.size) (hsta : StepAt w jb p3a p4a p5a ia sa)
    (hn : ∀ x, x = g ∨ x = jb ∨ x = p3a ∨ x = p4a ∨ x = p5a → x ∉ d.foot db)
    (hcm : Calm d N m) (hm : m + 1 ≤ 4096) (hN : N ≤ 1024) (hia : 0 ≤ ia ∧ ia < (N : Int)) (hsa : sa.size = 4096) :
    Calls Tryz.prog 147 #[.pointer (some ⟨jb, 0, none⟩), .slice (some ⟨g, 0, none⟩) 2 c] w fun e w' => e = .returned (.int .i64 0) ∧ ∃ d', d' = ({ d with cs := d.cs ++ [(ia, sa)] } : DiskD).flushed ∧ DiskTo w w' db d d' := by
  have HH := Lib.hid h
  have HR := Lib.hid hrow
  have HJ := Lib.hid hj
  have HSTa := Lib.hid hsta
  have HIa := Lib.hid hia
  have HSa := Lib.hid hsa
  have HN := Lib.hid hn
  have HCM := Lib.hid hcm
  have HMM := Lib.hid (And.intro hm hN)
  have HJL := Lib.hid hjl
  clear h hrow hj hn hcm hm hN hjl hsta hia hsa
  go_enter Tryz.func147, Tryz.ntmps147
  go_wp2_with fail
  go_loopw [10] (fun v wr => ∃ (k : Nat) (d' : DiskD), k ≤ 2 ∧ v = .int .i64 k ∧ ((k = 0 → d' = d) ∧ (k = 1 → (∃ cv, d' = { d with cv := cv, cs := d.cs ++ [(ia, sa)] })) ∧ (k = 2 → d' = ({ d with cs := d.cs ++ [(ia, sa)] } : DiskD).flushed)) ∧ Calm d' N (m + 1) ∧ (k = 0 → Calm d' N m) ∧ (k = 1 → Calm d' N (m + 1)) ∧ DiskTo w wr db d d') (fun v _ => 2 - (intOf v).toNat)
  case atStart => exact ⟨0, d, by omega, rfl, ⟨fun _ => rfl, fun h => (by cases h), fun h => (by cases h)⟩, HCM.out.mono (by omega), fun _ => HCM.out, fun h => (by cases h), DiskTo.refl HH.out⟩
  case round =>
    obtain ⟨k, d', hk, rfl, hstage, hca, hc0, hc1, hto⟩ := hrel
    have HT := Lib.hid hto
    have HSG := Lib.hid hstage
    have HCA := Lib.hid hca
    have HC0 := Lib.hid hc0
    have HC1 := Lib.hid hc1
    clear hto hstage hca hc0 hc1
    have HRr := Lib.hid (HT.out.turned.blk HR.out (HN.out g (by simp)))
    have HJr := Lib.hid (show wr.cell? ⟨jb, 1, none⟩ = some (.pointer (some ⟨db, 0, none⟩)) by rw [HT.out.turned.cell HJL.out (HN.out jb (by simp))]; exact HJ.out)
    have HSTra := Lib.hid (HSTa.out.turned HT.out.turned (HN.out p3a (by simp)) (HN.out p4a (by simp)) (HN.out p5a (by simp)))
    match k, hk with
    | 0, hk =>
      have ck := HRr.out.cell (i := 0) rfl
      go_wp2_with fail
      obtain rfl : d' = d := HSG.out.1 (by trivial)
      refine (jwrite1_walk jb db p3a p4a p5a _ ia sa _ HT.out.at' HJr.out HSTra.out HCA.out.up HCA.out.left (by have := (HC0.out (by trivial)).few; have := HMM.out.1; omega) HIa.out.1 (by rw [HCA.out.len]; exact HIa.out.2) HSa.out).mono ?_
      rintro e w2 ⟨rfl, cv', ht⟩
      have HT2 := Lib.hid ht
      clear ht
      go_wp2_with fail
      go_roundw
      case rel => exact ⟨1, _, by omega, rfl, ⟨fun h => (by cases h), fun _ => ⟨cv', rfl⟩, fun h => (by cases h)⟩, ((HC0.out (by trivial)).put HIa.out.1 HIa.out.2 cv' sa).mono (by omega), fun h => (by cases h), fun _ => ((HC0.out (by trivial)).put HIa.out.1 HIa.out.2 cv' sa), HT.out.trans HT2.out⟩
      case measure => simp [intOf]
    | 1, hk =>
      have ck := HRr.out.cell (i := 1) rfl
      go_wp2_with fail
      obtain ⟨cv0, rfl⟩ := HSG.out.2.1 (by trivial)
      refine (dflush_walk db _ _ HT.out.at' HCA.out.up HCA.out.left (by have := HCA.out.few; have := HMM.out.1; omega) (by have := HCA.out.len; have := HMM.out.2; omega) HCA.out.hin).mono ?_
      rintro e w2 ⟨rfl, ht⟩
      have HT2 := Lib.hid ht
      clear ht
      go_wp2_with fail
      go_roundw
      case rel => exact ⟨2, _, by omega, rfl, ⟨fun h => (by cases h), fun h => (by cases h), fun _ => rfl⟩, HCA.out.flushed.mono (Nat.zero_le _), fun h => (by cases h), fun h => (by cases h), HT.out.trans HT2.out⟩
      case measure => simp [intOf]
    | 2, hk =>
      go_wp2_with fail
      go_ret
      first
        | exact ⟨rfl, d', HSG.out.2.2 (by trivial), HT.out⟩
        | (have he := HSG.out.2.2 (by trivial); subst he; first | exact ⟨rfl, HT.out⟩ | exact ⟨rfl, by have ht := HT.out; simp only [List.append_assoc, List.cons_append, List.nil_append] at ht; exact ht⟩)
end Go.Proofs.YtppdboadjefieaaGreat

