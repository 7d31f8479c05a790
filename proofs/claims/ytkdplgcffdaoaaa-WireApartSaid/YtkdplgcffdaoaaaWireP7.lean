/- Walk of wire's part: told, both ways (chapter 27). -/
import Derived.Test.YtkdplgcffdaoaaaWireP6
namespace Go.Proofs.Ytkdplgcffdaoaaa
set_option linter.unusedSimpArgs false
set_option linter.unusedVariables false
open Go Go.RowKit
set_option linter.unusedVariables false

theorem strF_len' {rd : Bool} {x x' : ByteArray} {s s' : List UInt8} (h : strF rd x s = some (x', s')) (hx : rd = false → x.size ≤ 1000) : s'.length ≤ s.length + 1000 := by
  have := strF_len h
  cases rd with
  | true => simp only [if_true] at this; omega
  | false => have := hx rfl; simp only [Bool.false_eq_true, if_false] at *; omega
theorem textF_len' {rd : Bool} {x x' : ByteArray} {s s' : List UInt8} (h : textF rd x s = some (x', s')) (hx : rd = false → x.size ≤ 5000) : s'.length ≤ s.length + 5004 := by
  have := textF_len h
  cases rd with
  | true => simp only [if_true] at this; omega
  | false => have := hx rfl; simp only [Bool.false_eq_true, if_false] at *; omega
theorem leafOk_hash {x : LeafD} (h : leafOk x = true) : x.hash.size ≤ 32 := by
  simp only [leafOk, leafSaid, Bool.or_eq_true, Bool.and_eq_true, decide_eq_true_eq] at h
  rcases h with h | h
  · rw [h]; decide
  · omega
/-- How a part of a whole message ends. -/
def EndsM (w : World) (q b : Nat) (rd br : Bool) (r : Option (MsgD × List UInt8)) (e : Ending) (w' : World) : Prop :=
  match r with
  | none => e = .panicked shortP ∧ Bad w w' q b 41 39
  | some (m, s') => e = .returned (.tuple #[]) ∧ ∃ u l, Done w w' q b rd br s' (m.cells u l) 39 ∧ PathIn [q, b] w' u m.told.up ∧ PathIn [q, b] w' l m.told.left
def toldM (rd : Bool) (m : MsgD) (s : List UInt8) : Option (MsgD × List UInt8) :=
  match toldF rd m.told s with
  | none => none
  | some (t, s1) => some ({ m with told := t }, s1)
theorem all32_each {l : List ByteArray} (h : all32 l = true) : ∀ x ∈ l, x.size ≤ 32 := by
  intro x hx
  unfold all32 at h
  rw [List.all_eq_true] at h
  have := h x hx
  simp at this
  omega
theorem toldF_len {rd : Bool} {t t' : ToldD} {s s' : List UInt8} (h : toldF rd t s = some (t', s')) (hx : rd = false → toldOk t = true) : s'.length ≤ s.length + 22000 := by
  unfold toldF at h
  cases h1 : askF rd t.askE t.askL s with
  | none => rw [h1] at h; cases h
  | some p =>
    obtain ⟨⟨e, l⟩, s1⟩ := p
    rw [h1] at h
    simp only at h
    have L1 := askF_len h1
    cases h2 : flagF rd t.gone s1 with
    | none => rw [h2] at h; cases h
    | some p =>
      obtain ⟨g, s2⟩ := p
      rw [h2] at h
      have L2 := flagF_len h2
      cases g with
      | true => simp only [Option.some.injEq, Prod.mk.injEq] at h; rw [← h.2]; omega
      | false =>
        simp only at h
        have hok : rd = false → leafOk t.here = true ∧ leafOk t.ahead = true ∧ t.cipher.size ≤ 5000 ∧ t.up.length ≤ 12 ∧ t.left.length ≤ 12 ∧ all32 t.up = true ∧ all32 t.left = true := by
          intro hr
          subst hr
          rw [flagF_w] at h2
          have hg : t.gone = false := by simp only [Option.some.injEq, Prod.mk.injEq] at h2; exact h2.1
          have := hx rfl
          unfold toldOk at this
          rw [hg] at this
          simp only [Bool.false_eq_true, if_false, Bool.and_eq_true, decide_eq_true_eq] at this
          obtain ⟨⟨⟨⟨⟨_, h1⟩, _⟩, h2⟩, h3⟩, ⟨⟨h4, h5⟩, h6⟩, h7⟩ := this
          exact ⟨h2, h3, by omega, h4, h5, h6, h7⟩
        unfold toldF2 at h
        simp only at h
        cases h3 : numF rd 4 t.slot s2 with
        | none => rw [h3] at h; cases h
        | some p =>
        obtain ⟨x3, s3⟩ := p
        rw [h3] at h
        simp only at h
        have L3 := numF_len h3
        cases h4 : textF rd t.cipher s3 with
        | none => rw [h4] at h; cases h
        | some p =>
        obtain ⟨x4, s4⟩ := p
        rw [h4] at h
        simp only at h
        have L4 := textF_len' h4 (fun h => (hok h).2.2.1)
        cases h5 : flagF rd t.found s4 with
        | none => rw [h5] at h; cases h
        | some p =>
        obtain ⟨x5, s5⟩ := p
        rw [h5] at h
        simp only at h
        have L5 := flagF_len h5
        cases h6 : numF rd 4 t.at_ s5 with
        | none => rw [h6] at h; cases h
        | some p =>
        obtain ⟨x6, s6⟩ := p
        rw [h6] at h
        simp only at h
        have L6 := numF_len h6
        cases h7 : leafF rd t.here s6 with
        | none => rw [h7] at h; cases h
        | some p =>
        obtain ⟨x7, s7⟩ := p
        rw [h7] at h
        simp only at h
        have L7 := leafF_len h7 (fun h => leafOk_hash (hok h).1)
        cases h8 : leafF rd t.ahead s7 with
        | none => rw [h8] at h; cases h
        | some p =>
        obtain ⟨x8, s8⟩ := p
        rw [h8] at h
        simp only at h
        have L8 := leafF_len h8 (fun h => leafOk_hash (hok h).2.1)
        cases h9 : pathF rd t.up s8 with
        | none => rw [h9] at h; cases h
        | some p =>
        obtain ⟨x9, s9⟩ := p
        rw [h9] at h
        simp only at h
        have L9 := (pathF_len h9 (fun h => (hok h).2.2.2.1) (fun h => all32_each (hok h).2.2.2.2.2.1)).1
        cases h10 : pathF rd t.left s9 with
        | none => rw [h10] at h; cases h
        | some p =>
        obtain ⟨x10, s10⟩ := p
        rw [h10] at h
        simp only at h
        have L10 := (pathF_len h10 (fun h => (hok h).2.2.2.2.1) (fun h => all32_each (hok h).2.2.2.2.2.2)).1
        simp only [Option.some.injEq, Prod.mk.injEq] at h
        rw [← h.2]
        omega
set_option maxRecDepth 100000 in
set_option maxHeartbeats 8000000 in
theorem told_any (q : Nat) (s : ByteArray) (rd br : Bool) (b : Nat) (m : MsgD) (u l : Value) (w : World) (hp : PartAt w q s rd br) (hb : Blk w b (m.cells u l) 39) (hbq : b ≠ q)
    (hu : PathIn [q, b] w u m.told.up) (hl : PathIn [q, b] w l m.told.left) (hz : rd = true → (u = .slice none 0 0 ∧ m.told.up = []) ∧ (l = .slice none 0 0 ∧ m.told.left = [])) (hx : rd = false → toldOk m.told = true) (hs : s.size ≤ 1010000) :
    Calls Try.prog 61 #[.pointer (some ⟨q, 0, none⟩), .pointer (some ⟨b, 17, none⟩)] w
      (EndsM w q b rd br (toldM rd m s.data.toList)) := by
  obtain ⟨kind, epoch, seq, nonce, tag, last, askE, askL, sld, ⟨te, tl, tg, tf, ta, th, tah, tu, tlf, tsl, tc⟩, rcp⟩ := m
  have HX := Lib.hid hx
  have ha : rd = false → askOk te tl = true := by
    intro h
    have := hx h
    unfold toldOk at this
    cases tg with
    | true => simp only [if_true, Bool.and_eq_true] at this; exact this.1
    | false => simp only [Bool.false_eq_true, if_false, Bool.and_eq_true] at this; exact this.1.1.1.1.1.1
  have HA := Lib.hid ha
  have HZ1 := Lib.hid (fun h => (hz h).1)
  have HZ2 := Lib.hid (fun h => (hz h).2)
  have HP0 := Lib.hid hp; have B0 := Lib.hid hb; have T0 : Hid (Turned [q, b] w w) := Lib.hid (Turned.refl _ _)
  have Qu0 := Lib.hid hu; have Ql0 := Lib.hid hl
  have HLEN := Lib.hid (show s.data.toList.length ≤ s.size + 0 from Nat.le_refl _)
  clear hp hb hu hl hx ha hz
  go_enter Try.func61, Try.ntmps61
  go_wp2_with fail
  refine (ask_any q s rd br b 17 te tl _ 39 _ HP0.out B0.out rfl rfl hbq HA.out (by omega)).mono ?_
  rintro e' w1 he
  cases h1 : askF rd te tl s.data.toList with
  | none =>
    rw [h1] at he
    obtain ⟨rfl, hbad⟩ := he
    have HF := Lib.hid (show toldM rd (⟨kind, epoch, seq, nonce, tag, last, askE, askL, sld, ⟨te, tl, tg, tf, ta, th, tah, tu, tlf, tsl, tc⟩, rcp⟩ : MsgD) s.data.toList = none by unfold toldM toldF; simp only [h1])
    have HBAD := Lib.hid (hbad.sofar T0.out)
    clear hbad h1
    go_wp2_with fail
    refine ⟨rfl, ?_⟩
    rw [HF.out]
    exact ⟨rfl, HBAD.out⟩
  | some p =>
    obtain ⟨⟨x1, y1⟩, s1⟩ := p
    rw [h1] at he
    obtain ⟨rfl, hd⟩ := he
    obtain ⟨p1, tp1, hp1⟩ := hd.part
    have L1 : s1.length ≤ s.size + 6 := by have := askF_len h1; have := HLEN.out; omega
    have hs1 : p1.size ≤ s.size + 6 := by rw [tp1.size]; omega
    have B1 : Hid (Blk w1 b ((⟨kind, epoch, seq, nonce, tag, last, askE, askL, sld, ⟨x1, y1, tg, tf, ta, th, tah, tu, tlf, tsl, tc⟩, rcp⟩ : MsgD).cells u l) 39) := Lib.hid hd.blk
    have T1 := Lib.hid (T0.out.trans hd.turned)
    have H1 := Lib.hid h1; have TP1 := Lib.hid tp1; have HP1 := Lib.hid hp1
    have Qu1 := Lib.hid (Qu0.out.turned hd.turned)
    have Ql1 := Lib.hid (Ql0.out.turned hd.turned)
    clear hd h1 tp1 hp1
    go_wp2_with fail
    refine (flag_any q p1 rd br b 19 tg _ 39 _ HP1.out B1.out rfl hbq (by omega)).mono ?_
    rintro e' w2 he
    rw [show p1.data.toList = s1 from TP1.out] at he
    cases h2 : flagF rd tg s1 with
    | none =>
      rw [h2] at he
      obtain ⟨rfl, hbad⟩ := he
      have HF := Lib.hid (show toldM rd (⟨kind, epoch, seq, nonce, tag, last, askE, askL, sld, ⟨te, tl, tg, tf, ta, th, tah, tu, tlf, tsl, tc⟩, rcp⟩ : MsgD) s.data.toList = none by unfold toldM toldF; simp only [H1.out, h2])
      have HBAD := Lib.hid (hbad.sofar T1.out)
      clear hbad h2
      go_wp2_with fail
      refine ⟨rfl, ?_⟩
      rw [HF.out]
      exact ⟨rfl, HBAD.out⟩
    | some p =>
      obtain ⟨x2, s2⟩ := p
      rw [h2] at he
      obtain ⟨rfl, hd⟩ := he
      obtain ⟨p2, tp2, hp2⟩ := hd.part
      have L2 : s2.length ≤ s.size + 7 := by have := flagF_len h2; have := L1; omega
      have hs2 : p2.size ≤ s.size + 7 := by rw [tp2.size]; omega
      have B2 : Hid (Blk w2 b ((⟨kind, epoch, seq, nonce, tag, last, askE, askL, sld, ⟨x1, y1, x2, tf, ta, th, tah, tu, tlf, tsl, tc⟩, rcp⟩ : MsgD).cells u l) 39) := Lib.hid hd.blk
      have T2 := Lib.hid (T1.out.trans hd.turned)
      have H2 := Lib.hid h2; have TP2 := Lib.hid tp2; have HP2 := Lib.hid hp2
      have Qu2 := Lib.hid (Qu1.out.turned hd.turned)
      have Ql2 := Lib.hid (Ql1.out.turned hd.turned)
      clear hd h2 tp2 hp2
      have g19 := B2.out.cell (i := 19) rfl
      cases x2 with
      | true =>
        go_wp2_with fail
        first | go_end0 | ((try simp only [Exit.inBlock, Exit.then]); refine bodyPost_ret (results_none rfl _ _ _) rfl ?_)
        have HF := Lib.hid (show toldM rd (⟨kind, epoch, seq, nonce, tag, last, askE, askL, sld, ⟨te, tl, tg, tf, ta, th, tah, tu, tlf, tsl, tc⟩, rcp⟩ : MsgD) s.data.toList = some ((⟨kind, epoch, seq, nonce, tag, last, askE, askL, sld, ⟨x1, y1, true, tf, ta, th, tah, tu, tlf, tsl, tc⟩, rcp⟩ : MsgD), s2) by unfold toldM toldF; simp only [H1.out, H2.out])
        rw [HF.out]
        exact ⟨rfl, u, l, ⟨⟨p2, TP2.out, HP2.out⟩, B2.out, T2.out⟩, Qu2.out, Ql2.out⟩
      | false =>
        have hok : rd = false → (0 ≤ tsl ∧ tsl.toNat < 256 ^ 4) ∧ tc.size ≤ 5000 ∧ (0 ≤ ta ∧ ta.toNat < 256 ^ 4) ∧ leafOk th = true ∧ leafOk tah = true ∧ (tu.length ≤ 12 ∧ ∀ x ∈ tu, x.size ≤ 32) ∧ (tlf.length ≤ 12 ∧ ∀ x ∈ tlf, x.size ≤ 32) := by
          intro hr
          have h1 := H2.out
          rw [hr, flagF_w] at h1
          have hg : tg = false := by simp only [Option.some.injEq, Prod.mk.injEq] at h1; exact h1.1
          have := HX.out hr
          unfold toldOk at this
          simp only [hg, Bool.false_eq_true, if_false, Bool.and_eq_true, decide_eq_true_eq, epochOk] at this
          obtain ⟨⟨⟨⟨⟨_, h1⟩, h8⟩, h2⟩, h3⟩, ⟨⟨h4, h5⟩, h6⟩, h7⟩ := this
          exact ⟨by omega, by omega, by omega, h2, h3, ⟨h4, all32_each h6⟩, ⟨h5, all32_each h7⟩⟩
        have c1 := fun h => (hok h).1
        have c2 := fun h => (hok h).2.1
        have c3 := fun h => (hok h).2.2.1
        have c4 := fun h => (hok h).2.2.2.1
        have c5 := fun h => (hok h).2.2.2.2.1
        have c6 := fun h => (hok h).2.2.2.2.2.1
        have c7 := fun h => (hok h).2.2.2.2.2.2
        have C1 := Lib.hid c1; have C2 := Lib.hid c2; have C3 := Lib.hid c3; have C4 := Lib.hid c4; have C5 := Lib.hid c5; have C6 := Lib.hid c6; have C7 := Lib.hid c7
        clear hok c1 c2 c3 c4 c5 c6 c7
        go_wp2_with fail
        refine (number_any q p2 rd br b 28 4 tsl _ 39 _ HP2.out B2.out rfl hbq (by omega) (by omega) C1.out (by omega)).mono ?_
        rintro e' w3 he
        rw [show p2.data.toList = s2 from TP2.out] at he
        cases h3 : numF rd 4 tsl s2 with
        | none =>
          rw [h3] at he
          obtain ⟨rfl, hbad⟩ := he
          have HF := Lib.hid (show toldM rd (⟨kind, epoch, seq, nonce, tag, last, askE, askL, sld, ⟨te, tl, tg, tf, ta, th, tah, tu, tlf, tsl, tc⟩, rcp⟩ : MsgD) s.data.toList = none by unfold toldM toldF toldF2; simp only [H1.out, H2.out, h3])
          have HBAD := Lib.hid (hbad.sofar T2.out)
          clear hbad h3
          go_wp2_with fail
          refine ⟨rfl, ?_⟩
          rw [HF.out]
          exact ⟨rfl, HBAD.out⟩
        | some p =>
          obtain ⟨x3, s3⟩ := p
          rw [h3] at he
          obtain ⟨rfl, hd⟩ := he
          obtain ⟨p3, tp3, hp3⟩ := hd.part
          have L3 : s3.length ≤ s.size + 11 := by have := numF_len h3; have := L2; omega
          have hs3 : p3.size ≤ s.size + 11 := by rw [tp3.size]; omega
          have B3 : Hid (Blk w3 b ((⟨kind, epoch, seq, nonce, tag, last, askE, askL, sld, ⟨x1, y1, false, tf, ta, th, tah, tu, tlf, x3, tc⟩, rcp⟩ : MsgD).cells u l) 39) := Lib.hid hd.blk
          have T3 := Lib.hid (T2.out.trans hd.turned)
          have H3 := Lib.hid h3; have TP3 := Lib.hid tp3; have HP3 := Lib.hid hp3
          have Qu3 := Lib.hid (Qu2.out.turned hd.turned)
          have Ql3 := Lib.hid (Ql2.out.turned hd.turned)
          clear hd h3 tp3 hp3
          go_wp2_with fail
          refine (text_any q p3 rd br b 29 tc _ 39 _ HP3.out B3.out rfl hbq (by omega) (fun h => by have := C2.out h; omega)).mono ?_
          rintro e' w4 he
          rw [show p3.data.toList = s3 from TP3.out] at he
          cases h4 : textF rd tc s3 with
          | none =>
            rw [h4] at he
            obtain ⟨rfl, hbad⟩ := he
            have HF := Lib.hid (show toldM rd (⟨kind, epoch, seq, nonce, tag, last, askE, askL, sld, ⟨te, tl, tg, tf, ta, th, tah, tu, tlf, tsl, tc⟩, rcp⟩ : MsgD) s.data.toList = none by unfold toldM toldF toldF2; simp only [H1.out, H2.out, H3.out, h4])
            have HBAD := Lib.hid (hbad.sofar T3.out)
            clear hbad h4
            go_wp2_with fail
            refine ⟨rfl, ?_⟩
            rw [HF.out]
            exact ⟨rfl, HBAD.out⟩
          | some p =>
            obtain ⟨x4, s4⟩ := p
            rw [h4] at he
            obtain ⟨rfl, hd⟩ := he
            obtain ⟨p4, tp4, hp4⟩ := hd.part
            have L4 : s4.length ≤ s.size + 5015 := by have := textF_len' h4 C2.out; have := L3; omega
            have hs4 : p4.size ≤ s.size + 5015 := by rw [tp4.size]; omega
            have B4 : Hid (Blk w4 b ((⟨kind, epoch, seq, nonce, tag, last, askE, askL, sld, ⟨x1, y1, false, tf, ta, th, tah, tu, tlf, x3, x4⟩, rcp⟩ : MsgD).cells u l) 39) := Lib.hid hd.blk
            have T4 := Lib.hid (T3.out.trans hd.turned)
            have H4 := Lib.hid h4; have TP4 := Lib.hid tp4; have HP4 := Lib.hid hp4
            have Qu4 := Lib.hid (Qu3.out.turned hd.turned)
            have Ql4 := Lib.hid (Ql3.out.turned hd.turned)
            clear hd h4 tp4 hp4
            go_wp2_with fail
            refine (flag_any q p4 rd br b 20 tf _ 39 _ HP4.out B4.out rfl hbq (by omega)).mono ?_
            rintro e' w5 he
            rw [show p4.data.toList = s4 from TP4.out] at he
            cases h5 : flagF rd tf s4 with
            | none =>
              rw [h5] at he
              obtain ⟨rfl, hbad⟩ := he
              have HF := Lib.hid (show toldM rd (⟨kind, epoch, seq, nonce, tag, last, askE, askL, sld, ⟨te, tl, tg, tf, ta, th, tah, tu, tlf, tsl, tc⟩, rcp⟩ : MsgD) s.data.toList = none by unfold toldM toldF toldF2; simp only [H1.out, H2.out, H3.out, H4.out, h5])
              have HBAD := Lib.hid (hbad.sofar T4.out)
              clear hbad h5
              go_wp2_with fail
              refine ⟨rfl, ?_⟩
              rw [HF.out]
              exact ⟨rfl, HBAD.out⟩
            | some p =>
              obtain ⟨x5, s5⟩ := p
              rw [h5] at he
              obtain ⟨rfl, hd⟩ := he
              obtain ⟨p5, tp5, hp5⟩ := hd.part
              have L5 : s5.length ≤ s.size + 5016 := by have := flagF_len h5; have := L4; omega
              have hs5 : p5.size ≤ s.size + 5016 := by rw [tp5.size]; omega
              have B5 : Hid (Blk w5 b ((⟨kind, epoch, seq, nonce, tag, last, askE, askL, sld, ⟨x1, y1, false, x5, ta, th, tah, tu, tlf, x3, x4⟩, rcp⟩ : MsgD).cells u l) 39) := Lib.hid hd.blk
              have T5 := Lib.hid (T4.out.trans hd.turned)
              have H5 := Lib.hid h5; have TP5 := Lib.hid tp5; have HP5 := Lib.hid hp5
              have Qu5 := Lib.hid (Qu4.out.turned hd.turned)
              have Ql5 := Lib.hid (Ql4.out.turned hd.turned)
              clear hd h5 tp5 hp5
              go_wp2_with fail
              refine (number_any q p5 rd br b 21 4 ta _ 39 _ HP5.out B5.out rfl hbq (by omega) (by omega) C3.out (by omega)).mono ?_
              rintro e' w6 he
              rw [show p5.data.toList = s5 from TP5.out] at he
              cases h6 : numF rd 4 ta s5 with
              | none =>
                rw [h6] at he
                obtain ⟨rfl, hbad⟩ := he
                have HF := Lib.hid (show toldM rd (⟨kind, epoch, seq, nonce, tag, last, askE, askL, sld, ⟨te, tl, tg, tf, ta, th, tah, tu, tlf, tsl, tc⟩, rcp⟩ : MsgD) s.data.toList = none by unfold toldM toldF toldF2; simp only [H1.out, H2.out, H3.out, H4.out, H5.out, h6])
                have HBAD := Lib.hid (hbad.sofar T5.out)
                clear hbad h6
                go_wp2_with fail
                refine ⟨rfl, ?_⟩
                rw [HF.out]
                exact ⟨rfl, HBAD.out⟩
              | some p =>
                obtain ⟨x6, s6⟩ := p
                rw [h6] at he
                obtain ⟨rfl, hd⟩ := he
                obtain ⟨p6, tp6, hp6⟩ := hd.part
                have L6 : s6.length ≤ s.size + 5020 := by have := numF_len h6; have := L5; omega
                have hs6 : p6.size ≤ s.size + 5020 := by rw [tp6.size]; omega
                have B6 : Hid (Blk w6 b ((⟨kind, epoch, seq, nonce, tag, last, askE, askL, sld, ⟨x1, y1, false, x5, x6, th, tah, tu, tlf, x3, x4⟩, rcp⟩ : MsgD).cells u l) 39) := Lib.hid hd.blk
                have T6 := Lib.hid (T5.out.trans hd.turned)
                have H6 := Lib.hid h6; have TP6 := Lib.hid tp6; have HP6 := Lib.hid hp6
                have Qu6 := Lib.hid (Qu5.out.turned hd.turned)
                have Ql6 := Lib.hid (Ql5.out.turned hd.turned)
                clear hd h6 tp6 hp6
                go_wp2_with fail
                refine (leaf_any q p6 rd br b 22 th _ 39 _ HP6.out B6.out rfl rfl hbq C4.out (by omega)).mono ?_
                rintro e' w7 he
                rw [show p6.data.toList = s6 from TP6.out] at he
                cases h7 : leafF rd th s6 with
                | none =>
                  rw [h7] at he
                  obtain ⟨rfl, hbad⟩ := he
                  have HF := Lib.hid (show toldM rd (⟨kind, epoch, seq, nonce, tag, last, askE, askL, sld, ⟨te, tl, tg, tf, ta, th, tah, tu, tlf, tsl, tc⟩, rcp⟩ : MsgD) s.data.toList = none by unfold toldM toldF toldF2; simp only [H1.out, H2.out, H3.out, H4.out, H5.out, H6.out, h7])
                  have HBAD := Lib.hid (hbad.sofar T6.out)
                  clear hbad h7
                  go_wp2_with fail
                  refine ⟨rfl, ?_⟩
                  rw [HF.out]
                  exact ⟨rfl, HBAD.out⟩
                | some p =>
                  obtain ⟨x7, s7⟩ := p
                  rw [h7] at he
                  obtain ⟨rfl, hd⟩ := he
                  obtain ⟨p7, tp7, hp7⟩ := hd.part
                  have L7 : s7.length ≤ s.size + 5055 := by have := leafF_len h7 (fun h => leafOk_hash (C4.out h)); have := L6; omega
                  have hs7 : p7.size ≤ s.size + 5055 := by rw [tp7.size]; omega
                  have B7 : Hid (Blk w7 b ((⟨kind, epoch, seq, nonce, tag, last, askE, askL, sld, ⟨x1, y1, false, x5, x6, x7, tah, tu, tlf, x3, x4⟩, rcp⟩ : MsgD).cells u l) 39) := Lib.hid hd.blk
                  have T7 := Lib.hid (T6.out.trans hd.turned)
                  have H7 := Lib.hid h7; have TP7 := Lib.hid tp7; have HP7 := Lib.hid hp7
                  have Qu7 := Lib.hid (Qu6.out.turned hd.turned)
                  have Ql7 := Lib.hid (Ql6.out.turned hd.turned)
                  clear hd h7 tp7 hp7
                  go_wp2_with fail
                  refine (leaf_any q p7 rd br b 24 tah _ 39 _ HP7.out B7.out rfl rfl hbq C5.out (by omega)).mono ?_
                  rintro e' w8 he
                  rw [show p7.data.toList = s7 from TP7.out] at he
                  cases h8 : leafF rd tah s7 with
                  | none =>
                    rw [h8] at he
                    obtain ⟨rfl, hbad⟩ := he
                    have HF := Lib.hid (show toldM rd (⟨kind, epoch, seq, nonce, tag, last, askE, askL, sld, ⟨te, tl, tg, tf, ta, th, tah, tu, tlf, tsl, tc⟩, rcp⟩ : MsgD) s.data.toList = none by unfold toldM toldF toldF2; simp only [H1.out, H2.out, H3.out, H4.out, H5.out, H6.out, H7.out, h8])
                    have HBAD := Lib.hid (hbad.sofar T7.out)
                    clear hbad h8
                    go_wp2_with fail
                    refine ⟨rfl, ?_⟩
                    rw [HF.out]
                    exact ⟨rfl, HBAD.out⟩
                  | some p =>
                    obtain ⟨x8, s8⟩ := p
                    rw [h8] at he
                    obtain ⟨rfl, hd⟩ := he
                    obtain ⟨p8, tp8, hp8⟩ := hd.part
                    have L8 : s8.length ≤ s.size + 5090 := by have := leafF_len h8 (fun h => leafOk_hash (C5.out h)); have := L7; omega
                    have hs8 : p8.size ≤ s.size + 5090 := by rw [tp8.size]; omega
                    have B8 : Hid (Blk w8 b ((⟨kind, epoch, seq, nonce, tag, last, askE, askL, sld, ⟨x1, y1, false, x5, x6, x7, x8, tu, tlf, x3, x4⟩, rcp⟩ : MsgD).cells u l) 39) := Lib.hid hd.blk
                    have T8 := Lib.hid (T7.out.trans hd.turned)
                    have H8 := Lib.hid h8; have TP8 := Lib.hid tp8; have HP8 := Lib.hid hp8
                    have Qu8 := Lib.hid (Qu7.out.turned hd.turned)
                    have Ql8 := Lib.hid (Ql7.out.turned hd.turned)
                    clear hd h8 tp8 hp8
                    go_wp2_with fail
                    refine (path_any q p8 rd br b 26 u tu _ 39 _ HP8.out B8.out rfl hbq Qu8.out HZ1.out C6.out (by omega)).mono ?_
                    rintro e' w9 he
                    rw [show p8.data.toList = s8 from TP8.out] at he
                    cases h9 : pathF rd tu s8 with
                    | none =>
                      rw [h9] at he
                      obtain ⟨rfl, hbad⟩ := he
                      have HF := Lib.hid (show toldM rd (⟨kind, epoch, seq, nonce, tag, last, askE, askL, sld, ⟨te, tl, tg, tf, ta, th, tah, tu, tlf, tsl, tc⟩, rcp⟩ : MsgD) s.data.toList = none by unfold toldM toldF toldF2; simp only [H1.out, H2.out, H3.out, H4.out, H5.out, H6.out, H7.out, H8.out, h9])
                      have HBAD := Lib.hid (hbad.sofar T8.out)
                      clear hbad h9
                      go_wp2_with fail
                      refine ⟨rfl, ?_⟩
                      rw [HF.out]
                      exact ⟨rfl, HBAD.out⟩
                    | some p =>
                      obtain ⟨x9, s9⟩ := p
                      rw [h9] at he
                      obtain ⟨rfl, v9, hd, hpi⟩ := he
                      obtain ⟨p9, tp9, hp9⟩ := hd.part
                      have L9 : s9.length ≤ s.size + 13290 := by have := (pathF_len h9 (fun h => (C6.out h).1) (fun h => (C6.out h).2)).1; have := L8; omega
                      have hs9 : p9.size ≤ s.size + 13290 := by rw [tp9.size]; omega
                      have B9 : Hid (Blk w9 b ((⟨kind, epoch, seq, nonce, tag, last, askE, askL, sld, ⟨x1, y1, false, x5, x6, x7, x8, x9, tlf, x3, x4⟩, rcp⟩ : MsgD).cells v9 l) 39) := Lib.hid hd.blk
                      have T9 := Lib.hid (T8.out.trans hd.turned)
                      have H9 := Lib.hid h9; have TP9 := Lib.hid tp9; have HP9 := Lib.hid hp9
                      have Qu9 := Lib.hid hpi
                      have Ql9 := Lib.hid (Ql8.out.turned hd.turned)
                      clear hpi
                      clear hd h9 tp9 hp9
                      go_wp2_with fail
                      refine (path_any q p9 rd br b 27 l tlf _ 39 _ HP9.out B9.out rfl hbq Ql9.out HZ2.out C7.out (by omega)).mono ?_
                      rintro e' w10 he
                      rw [show p9.data.toList = s9 from TP9.out] at he
                      cases h10 : pathF rd tlf s9 with
                      | none =>
                        rw [h10] at he
                        obtain ⟨rfl, hbad⟩ := he
                        have HF := Lib.hid (show toldM rd (⟨kind, epoch, seq, nonce, tag, last, askE, askL, sld, ⟨te, tl, tg, tf, ta, th, tah, tu, tlf, tsl, tc⟩, rcp⟩ : MsgD) s.data.toList = none by unfold toldM toldF toldF2; simp only [H1.out, H2.out, H3.out, H4.out, H5.out, H6.out, H7.out, H8.out, H9.out, h10])
                        have HBAD := Lib.hid (hbad.sofar T9.out)
                        clear hbad h10
                        go_wp2_with fail
                        refine ⟨rfl, ?_⟩
                        rw [HF.out]
                        exact ⟨rfl, HBAD.out⟩
                      | some p =>
                        obtain ⟨x10, s10⟩ := p
                        rw [h10] at he
                        obtain ⟨rfl, v10, hd, hpi⟩ := he
                        obtain ⟨p10, tp10, hp10⟩ := hd.part
                        have L10 : s10.length ≤ s.size + 21490 := by have := (pathF_len h10 (fun h => (C7.out h).1) (fun h => (C7.out h).2)).1; have := L9; omega
                        have hs10 : p10.size ≤ s.size + 21490 := by rw [tp10.size]; omega
                        have B10 : Hid (Blk w10 b ((⟨kind, epoch, seq, nonce, tag, last, askE, askL, sld, ⟨x1, y1, false, x5, x6, x7, x8, x9, x10, x3, x4⟩, rcp⟩ : MsgD).cells v9 v10) 39) := Lib.hid hd.blk
                        have T10 := Lib.hid (T9.out.trans hd.turned)
                        have H10 := Lib.hid h10; have TP10 := Lib.hid tp10; have HP10 := Lib.hid hp10
                        have Ql10 := Lib.hid hpi
                        have Qu10 := Lib.hid (Qu9.out.turned hd.turned)
                        clear hpi
                        clear hd h10 tp10 hp10
                        go_wp2_with fail
                        first | go_end0 | ((try simp only [Exit.inBlock, Exit.then]); refine bodyPost_ret (results_none rfl _ _ _) rfl ?_)
                        have HF := Lib.hid (show toldM rd (⟨kind, epoch, seq, nonce, tag, last, askE, askL, sld, ⟨te, tl, tg, tf, ta, th, tah, tu, tlf, tsl, tc⟩, rcp⟩ : MsgD) s.data.toList = some ((⟨kind, epoch, seq, nonce, tag, last, askE, askL, sld, ⟨x1, y1, false, x5, x6, x7, x8, x9, x10, x3, x4⟩, rcp⟩ : MsgD), s10) by unfold toldM toldF toldF2; simp only [H1.out, H2.out, H3.out, H4.out, H5.out, H6.out, H7.out, H8.out, H9.out, H10.out])
                        rw [HF.out]
                        exact ⟨rfl, v9, v10, ⟨⟨p10, TP10.out, HP10.out⟩, B10.out, T10.out⟩, Qu10.out, Ql10.out⟩
end Go.Proofs.Ytkdplgcffdaoaaa
