/- Walk of wire.written: a message's bytes (chapter 27). -/
import Derived.Test.YtkdplgcffdaoaaaWireP8
namespace Go.Proofs.Ytkdplgcffdaoaaa
set_option linter.unusedSimpArgs false
set_option linter.unusedVariables false
open Go Go.RowKit
set_option linter.unusedVariables false

theorem saysOk_kind {m : MsgD} (h : saysOk m = true) : 1 ≤ m.kind ∧ m.kind ≤ 10 := by
  unfold saysOk at h
  split at h
  · omega
  split at h
  · omega
  split at h
  · omega
  split at h
  · omega
  split at h
  · omega
  split at h
  · omega
  split at h
  · omega
  split at h
  · omega
  · cases h
theorem bareM_facts {m : MsgD} (h : bareM m = true) : m.told = ToldD.zero ∧ m.epoch = 0 ∧ m.seq = 0 ∧ (m.kind = 10 → m.nonce = ⟨#[]⟩) ∧ (taggedB m.kind = false → m.tag = ⟨#[]⟩) ∧ m.last = ⟨#[]⟩ ∧ (m.askE = 0 ∧ m.askL = 0) ∧ m.sld = Sld.zero ∧ m.rcp = Rcp.zero := by
  simp only [bareM, Bool.and_eq_true, Bool.or_eq_true, decide_eq_true_eq] at h
  obtain ⟨⟨⟨⟨⟨⟨⟨⟨h1, h2⟩, h3⟩, h4⟩, h5⟩, h6⟩, h7⟩, h8⟩, h9⟩ := h
  refine ⟨h1, h2, h3, fun hk => ?_, fun hk => ?_, h6, h7, h8, h9⟩
  · rcases h4 with h4 | h4
    · exact absurd hk h4
    · exact h4
  · rcases h5 with h5 | h5
    · rw [hk] at h5; cases h5
    · exact h5
structure MsgFacts (m : MsgD) : Prop where
  says : saysOk m = true
  nonce10 : m.kind = 10 → m.nonce = ⟨#[]⟩
  tag0 : taggedB m.kind = false → m.tag = ⟨#[]⟩
  nonce : m.nonce.size ≤ 32
  tag : m.tag.size ≤ 32
  last : m.last.size ≤ 32
  stag : m.sld.tag.size ≤ 32
theorem msgOk_facts {m : MsgD} (h : msgOk m = true) : MsgFacts m := by
  simp only [msgOk, Bool.and_eq_true, Bool.or_eq_true, decide_eq_true_eq] at h
  obtain ⟨⟨h1, h2, h3⟩, h4⟩ := h
  have hb := bareM_facts h4
  have hn : m.kind = 10 → m.nonce = ⟨#[]⟩ := hb.2.2.2.1
  have ht : taggedB m.kind = false → m.tag = ⟨#[]⟩ := hb.2.2.2.2.1
  have hl : (if m.kind = 4 then (⟨#[]⟩ : ByteArray) else m.last) = ⟨#[]⟩ := hb.2.2.2.2.2.1
  have hs : (if m.kind = 6 then Sld.zero else m.sld) = Sld.zero := hb.2.2.2.2.2.2.2.1
  refine ⟨h1, hn, ht, ?_, ?_, ?_, ?_⟩
  · rcases h2 with h2 | h2
    · rw [hn h2]; decide
    · omega
  · cases hk : taggedB m.kind with
    | true =>
      rcases h3 with h3 | h3
      · rw [hk] at h3; cases h3
      · omega
    | false => rw [ht hk]; decide
  · by_cases hk : m.kind = 4
    · have := h1
      unfold saysOk at this
      simp [hk] at this
      omega
    · rw [if_neg hk] at hl; rw [hl]; decide
  · by_cases hk : m.kind = 6
    · have := h1
      unfold saysOk at this
      simp [hk] at this
      omega
    · rw [if_neg hk] at hs; rw [hs]; decide
theorem rowLater {S : List Nat} {w w1 : World} {v : Value} {xs : List ByteArray} (h : PRow w v xs) (hb : Below w.heap.size w w1) (hS : ∀ x ∈ S, w.heap.size ≤ x) : PathIn S w1 v xs := by
  rcases h with h1 | ⟨g, o, c, h1, h2, _, h4⟩
  · exact .inl h1
  · exact .inr ⟨g, o, c, h1, Nat.lt_of_lt_of_le h2 hb.size, fun hm => by have := hS g hm; omega, fun j x hx => by rw [hb.cell (by exact h2)]; exact h4 j x hx⟩
/-- A message's bytes, with its tag or without. -/
def wrL (br : Bool) (m : MsgD) : List UInt8 := if br then msgSaid m else msgPut m
theorem sizeMsg {m : MsgD} {u l : Value} : (Try.prog.info? 39).map (·.size) = some (m.cells u l).length := by kernel_rfl

set_option maxRecDepth 100000 in
set_option maxHeartbeats 4000000 in
theorem written_walk (m : MsgD) (u l : Value) (br : Bool) (w : World) (hu : PRow w u m.told.up) (hl : PRow w l m.told.left) (hok : msgOk m = true) :
    Calls Try.prog 20 #[m.v u l, .bool br] w fun e w' => ∃ r, e = .returned (.string r) ∧ Txt r (wrL br m) ∧ Below w.heap.size w w' := by
  have HM := Lib.hid (msgOk_facts hok)
  have HU := Lib.hid hu; have HL := Lib.hid hl
  have hk := saysOk_kind HM.out.says
  clear hu hl hok
  go_enter Try.func20, Try.ntmps20
  go_wp2_with (first
    | ((with_reducible refine wpList_box_new 39 (.tmp 0) (m.cells u l) (some 2) ?hgd ?ho ?hd ?hx ?_); (case hgd => rfl); (case ho => rfl); (case hd => rfl); (case hx => rfl); (intro b w0 l0 B0 e0 z0))
    | ((with_reducible refine wpList_box_new 75 (.tmp 7) [.string ⟨#[]⟩, .bool false, .bool br] (some 8) ?hgd ?ho ?hd ?hx ?_); (case hgd => rfl); (case ho => rfl); (case hd => rfl); (case hx => rfl); (intro q w1 l1 B1 e1 z1; have Bm1 := B0.below e1 (Nat.lt_of_lt_of_le B0.lt l1)))
    | fail)
  have hbq : b ≠ q := by omega
  have HP1 : Hid (PartAt w1 q ⟨#[]⟩ false br) := Lib.hid B1
  have HB1 := Lib.hid Bm1
  have hbel : Below w.heap.size w w1 := (e0.mono l0).trans (e1.mono (by have := e0.size; omega))
  have HU1 : Hid (PathIn [q, b] w1 u m.told.up) := Lib.hid (rowLater HU.out hbel (fun x hx => by simp only [List.mem_cons, List.mem_nil_iff, or_false] at hx; have := e0.size; omega))
  have HL1 : Hid (PathIn [q, b] w1 l m.told.left) := Lib.hid (rowLater HL.out hbel (fun x hx => by simp only [List.mem_cons, List.mem_nil_iff, or_false] at hx; have := e0.size; omega))
  have HBEL := Lib.hid hbel
  have hq : w.heap.size ≤ q := by omega
  have hb0 : w.heap.size ≤ b := l0
  have hqb : w.heap.size ≤ w1.heap.size := hbel.size
  clear B0 B1 Bm1 e0 e1 z0 z1 l0 l1 hbel HU HL
  refine (number_any q ⟨#[]⟩ false br b 0 1 m.kind _ 39 _ HP1.out HB1.out rfl hbq (by omega) (by omega) (fun _ => by omega) (by decide)).mono ?_
  rintro e w2 ⟨rfl, hd⟩
  obtain ⟨p2, tp2, hp2⟩ := hd.part
  have HP2 := Lib.hid hp2; have TP2 := Lib.hid tp2
  have HB2 : Hid (Blk w2 b (m.cells u l) 39) := Lib.hid (by have := hd.blk; exact this)
  have T2 := Lib.hid hd.turned
  have hps : p2.size ≤ 10 := by rw [tp2.size, List.length_append, beBytes_length]; simp
  clear hd hp2 tp2
  go_wp2_with fail
  refine (parts_any q p2 false br b m u l _ HP2.out HB2.out hbq (HU1.out.turned T2.out) (HL1.out.turned T2.out) (fun h => by cases h) (fun _ => ⟨HM.out.says, by have := HM.out.nonce; omega, by have := HM.out.tag; omega, by have := HM.out.last; omega, by have := HM.out.stag; omega⟩) (by omega)).mono ?_
  rintro e w3 he
  rw [partsF_w HM.out.nonce10 HM.out.tag0] at he
  obtain ⟨rfl, u', l', hd, _, _⟩ := he
  obtain ⟨p3, tp3, hp3⟩ := hd.part
  have c3 := hp3.c0
  have TP3 := Lib.hid tp3
  have HBE := Lib.hid ((T2.out.trans hd.turned).below HBEL.out (fun x hx => by simp only [List.mem_cons, List.mem_nil_iff, or_false] at hx; omega) hqb)
  clear hd tp3 hp3
  go_wp2_with fail
  go_ret
  refine ⟨p3, rfl, TP3.out.cast ?_, HBE.out⟩
  rw [show p2.data.toList = _ from TP2.out]
  cases br with
  | true => simp [wrL, msgSaid]
  | false => simp [wrL, msgPut, msgSaid]
end Go.Proofs.Ytkdplgcffdaoaaa
