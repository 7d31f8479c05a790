/- A journal's steps (chapter 25): flush, write, flush; of a disk that has power. -/
import Derived.Test.YtppdboadjefieaaGreatJour
namespace Go.Proofs.YtppdboadjefieaaGreat
set_option linter.unusedSimpArgs false
set_option linter.unusedVariables false
open Go Go.RowKit
set_option linter.unusedVariables false
set_option maxRecDepth 100000

set_option maxHeartbeats 2000000 in
theorem jsteps3_walk (jb db g c p3 p4 p5 : Nat) (t : TypeId) (d : DiskD) (i : Int) (s : ByteArray) (w : World) (h : DiskAt w db d) (hrow : Blk w g [.func (.func 151) #[.pointer (some ⟨db, 0, none⟩)] #[], .func (.func 237) #[] #[.pointer (some ⟨p3, 0, none⟩), .pointer (some ⟨p4, 0, none⟩), .pointer (some ⟨p5, 0, none⟩)], .func (.func 151) #[.pointer (some ⟨db, 0, none⟩)] #[]] t) (hj : w.cell? ⟨jb, 1, none⟩ = some (.pointer (some ⟨db, 0, none⟩))) (hjl : jb < w.heap.size) (hst : StepAt w jb p3 p4 p5 i s)
    (hn : ∀ x, x = g ∨ x = jb ∨ x = p3 ∨ x = p4 ∨ x = p5 → x ∉ d.foot db)
    (hd : d.down = false) (hl : d.left = 0) (hc : d.cs.length < 4096) (hb : d.bs.length ≤ 1024) (hin : ∀ (j : Nat) p, d.cs[j]? = some p → 0 ≤ p.1 ∧ p.1 < d.bs.length) (hi : 0 ≤ i) (hi2 : i < d.bs.length) (hs : s.size = 4096) :
    Calls Tryz.prog 147 #[.pointer (some ⟨jb, 0, none⟩), .slice (some ⟨g, 0, none⟩) 3 c] w fun e w' => e = .returned (.int .i64 0) ∧ ∃ d', d' = (({ d.flushed with cs := [(i, s)] } : DiskD)).flushed ∧ DiskTo w w' db d d' := by
  have HH := Lib.hid h
  have HR := Lib.hid hrow
  have HJ := Lib.hid hj
  have HST := Lib.hid hst
  have HN := Lib.hid hn
  have HIN := Lib.hid hin
  have HI := Lib.hid (And.intro hi hi2)
  have HS := Lib.hid hs
  have HC := Lib.hid hc
  have HJL := Lib.hid hjl
  have HD := Lib.hid hd
  have HLF := Lib.hid hl
  clear hd hl
  clear h hrow hj hst hn hin hi hi2 hs hc hjl
  go_enter Tryz.func147, Tryz.ntmps147
  go_wp2_with fail
  go_loopw [10] (fun v wr => ∃ (k : Nat) (d' : DiskD), k ≤ 3 ∧ v = .int .i64 k ∧ ((k = 0 → d' = d) ∧ (k = 1 → d' = d.flushed) ∧ (k = 2 → (∃ cv, d' = { d.flushed with cv := cv, cs := [(i, s)] })) ∧ (k = 3 → d' = (({ d.flushed with cs := [(i, s)] } : DiskD)).flushed)) ∧ DiskTo w wr db d d') (fun v _ => 3 - (intOf v).toNat)
  case atStart => exact ⟨0, d, by omega, rfl, ⟨fun _ => rfl, fun h => (by cases h), fun h => (by cases h), fun h => (by cases h)⟩, DiskTo.refl HH.out⟩
  case round =>
    obtain ⟨k, d', hk, rfl, hstage, hto⟩ := hrel
    have HT := Lib.hid hto
    have HSG := Lib.hid hstage
    clear hto hstage
    have hr := HT.out.turned.blk HR.out (HN.out g (by simp))
    have HRr := Lib.hid hr
    have HJr := Lib.hid (show wr.cell? ⟨jb, 1, none⟩ = some (.pointer (some ⟨db, 0, none⟩)) by rw [HT.out.turned.cell HJL.out (HN.out jb (by simp))]; exact HJ.out)
    have HSTr := Lib.hid (HST.out.turned HT.out.turned (HN.out p3 (by simp)) (HN.out p4 (by simp)) (HN.out p5 (by simp)))
    clear hr
    match k, hk with
    | 0, hk =>
      have ck := HRr.out.cell (i := 0) rfl
      go_wp2_with fail
      obtain rfl : d' = d := HSG.out.1 (by trivial)
      refine (dflush_walk db d' _ HT.out.at' HD.out HLF.out (Nat.le_of_lt HC.out) hb HIN.out).mono ?_
      rintro e w2 ⟨rfl, ht⟩
      have HT2 := Lib.hid ht
      clear ht
      go_wp2_with fail
      go_roundw
      case rel => exact ⟨1, _, by omega, rfl, ⟨fun h => (by cases h), fun _ => rfl, fun h => (by cases h), fun h => (by cases h)⟩, HT.out.trans HT2.out⟩
      case measure => simp [intOf]
    | 1, hk =>
      have ck := HRr.out.cell (i := 1) rfl
      go_wp2_with fail
      obtain rfl : d' = d.flushed := HSG.out.2.1 (by trivial)
      refine (jwrite1_walk jb db p3 p4 p5 d.flushed i s _ HT.out.at' HJr.out HSTr.out HD.out HLF.out (by show 0 < 4096; decide) HI.out.1 (by show i < ((putsTo d.bs d.cs d.cs.length).length : Int); rw [putsTo_length]; exact HI.out.2) HS.out).mono ?_
      rintro e w2 ⟨rfl, cv', ht⟩
      have HT2 := Lib.hid ht
      clear ht
      go_wp2_with fail
      go_roundw
      case rel => exact ⟨2, _, by omega, rfl, ⟨fun h => (by cases h), fun h => (by cases h), fun _ => ⟨cv', rfl⟩, fun h => (by cases h)⟩, HT.out.trans HT2.out⟩
      case measure => simp [intOf]
    | 2, hk =>
      have ck := HRr.out.cell (i := 2) rfl
      go_wp2_with fail
      obtain ⟨cv, rfl⟩ := HSG.out.2.2.1 (by trivial)
      refine (dflush_walk db _ _ HT.out.at' HD.out HLF.out (by show 1 ≤ 4096; decide) (by show (putsTo d.bs d.cs d.cs.length).length ≤ 1024; rw [putsTo_length]; exact hb) (by
        intro j p hp
        match j, hp with
        | 0, hp => simp at hp; subst hp; exact ⟨HI.out.1, by show i < ((putsTo d.bs d.cs d.cs.length).length : Int); rw [putsTo_length]; exact HI.out.2⟩
        | j + 1, hp => simp at hp)).mono ?_
      rintro e w2 ⟨rfl, ht⟩
      have HT2 := Lib.hid ht
      clear ht
      go_wp2_with fail
      go_roundw
      case rel => exact ⟨3, _, by omega, rfl, ⟨fun h => (by cases h), fun h => (by cases h), fun h => (by cases h), fun _ => rfl⟩, HT.out.trans HT2.out⟩
      case measure => simp [intOf]
    | 3, hk =>
      go_wp2_with fail
      go_ret
      have he := HSG.out.2.2.2 (by trivial)
      subst he
      exact ⟨rfl, HT.out⟩
set_option maxHeartbeats 2000000 in
theorem jsteps2_walk (jb db g c p3 p4 p5 : Nat) (t : TypeId) (d : DiskD) (i : Int) (s : ByteArray) (w : World) (h : DiskAt w db d) (hrow : Blk w g [.func (.func 237) #[] #[.pointer (some ⟨p3, 0, none⟩), .pointer (some ⟨p4, 0, none⟩), .pointer (some ⟨p5, 0, none⟩)], .func (.func 151) #[.pointer (some ⟨db, 0, none⟩)] #[]] t) (hj : w.cell? ⟨jb, 1, none⟩ = some (.pointer (some ⟨db, 0, none⟩))) (hjl : jb < w.heap.size) (hst : StepAt w jb p3 p4 p5 i s)
    (hn : ∀ x, x = g ∨ x = jb ∨ x = p3 ∨ x = p4 ∨ x = p5 → x ∉ d.foot db)
    (hd : d.down = false) (hl : d.left = 0) (hc : d.cs.length < 4096) (hb : d.bs.length ≤ 1024) (hin : ∀ (j : Nat) p, d.cs[j]? = some p → 0 ≤ p.1 ∧ p.1 < d.bs.length) (hi : 0 ≤ i) (hi2 : i < d.bs.length) (hs : s.size = 4096) :
    Calls Tryz.prog 147 #[.pointer (some ⟨jb, 0, none⟩), .slice (some ⟨g, 0, none⟩) 2 c] w fun e w' => e = .returned (.int .i64 0) ∧ ∃ d', d' = (({ d with cs := d.cs ++ [(i, s)] } : DiskD)).flushed ∧ DiskTo w w' db d d' := by
  have HH := Lib.hid h
  have HR := Lib.hid hrow
  have HJ := Lib.hid hj
  have HST := Lib.hid hst
  have HN := Lib.hid hn
  have HIN := Lib.hid hin
  have HI := Lib.hid (And.intro hi hi2)
  have HS := Lib.hid hs
  have HC := Lib.hid hc
  have HJL := Lib.hid hjl
  have HD := Lib.hid hd
  have HLF := Lib.hid hl
  clear hd hl
  clear h hrow hj hst hn hin hi hi2 hs hc hjl
  go_enter Tryz.func147, Tryz.ntmps147
  go_wp2_with fail
  go_loopw [10] (fun v wr => ∃ (k : Nat) (d' : DiskD), k ≤ 2 ∧ v = .int .i64 k ∧ ((k = 0 → d' = d) ∧ (k = 1 → (∃ cv, d' = { d with cv := cv, cs := d.cs ++ [(i, s)] })) ∧ (k = 2 → d' = (({ d with cs := d.cs ++ [(i, s)] } : DiskD)).flushed)) ∧ DiskTo w wr db d d') (fun v _ => 2 - (intOf v).toNat)
  case atStart => exact ⟨0, d, by omega, rfl, ⟨fun _ => rfl, fun h => (by cases h), fun h => (by cases h)⟩, DiskTo.refl HH.out⟩
  case round =>
    obtain ⟨k, d', hk, rfl, hstage, hto⟩ := hrel
    have HT := Lib.hid hto
    have HSG := Lib.hid hstage
    clear hto hstage
    have hr := HT.out.turned.blk HR.out (HN.out g (by simp))
    have HRr := Lib.hid hr
    have HJr := Lib.hid (show wr.cell? ⟨jb, 1, none⟩ = some (.pointer (some ⟨db, 0, none⟩)) by rw [HT.out.turned.cell HJL.out (HN.out jb (by simp))]; exact HJ.out)
    have HSTr := Lib.hid (HST.out.turned HT.out.turned (HN.out p3 (by simp)) (HN.out p4 (by simp)) (HN.out p5 (by simp)))
    clear hr
    match k, hk with
    | 0, hk =>
      have ck := HRr.out.cell (i := 0) rfl
      go_wp2_with fail
      obtain rfl : d' = d := HSG.out.1 (by trivial)
      refine (jwrite1_walk jb db p3 p4 p5 d' i s _ HT.out.at' HJr.out HSTr.out HD.out HLF.out HC.out HI.out.1 HI.out.2 HS.out).mono ?_
      rintro e w2 ⟨rfl, cv', ht⟩
      have HT2 := Lib.hid ht
      clear ht
      go_wp2_with fail
      go_roundw
      case rel => exact ⟨1, _, by omega, rfl, ⟨fun h => (by cases h), fun _ => ⟨cv', rfl⟩, fun h => (by cases h)⟩, HT.out.trans HT2.out⟩
      case measure => simp [intOf]
    | 1, hk =>
      have ck := HRr.out.cell (i := 1) rfl
      go_wp2_with fail
      obtain ⟨cv, rfl⟩ := HSG.out.2.1 (by trivial)
      refine (dflush_walk db _ _ HT.out.at' HD.out HLF.out (by show (d.cs ++ [(i, s)]).length ≤ 4096; rw [List.length_append]; exact HC.out) hb (by
        intro j p hp
        have hp' : (d.cs ++ [(i, s)])[j]? = some p := hp
        by_cases hj : j < d.cs.length
        · rw [List.getElem?_append_left hj] at hp'; exact HIN.out j p hp'
        · rw [List.getElem?_append_right (by omega)] at hp'
          obtain ⟨h1, h2⟩ := List.getElem?_eq_some_iff.1 hp'
          simp at h2
          subst h2
          exact HI.out)).mono ?_
      rintro e w2 ⟨rfl, ht⟩
      have HT2 := Lib.hid ht
      clear ht
      go_wp2_with fail
      go_roundw
      case rel => exact ⟨2, _, by omega, rfl, ⟨fun h => (by cases h), fun h => (by cases h), fun _ => rfl⟩, HT.out.trans HT2.out⟩
      case measure => simp [intOf]
    | 2, hk =>
      go_wp2_with fail
      go_ret
      have he := HSG.out.2.2 (by trivial)
      subst he
      exact ⟨rfl, HT.out⟩
end Go.Proofs.YtppdboadjefieaaGreat
