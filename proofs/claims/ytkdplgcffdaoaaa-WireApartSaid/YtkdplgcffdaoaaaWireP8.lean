/- Walk of wire's parts, both ways (chapter 27). -/
import Derived.Test.YtkdplgcffdaoaaaWireP7
namespace Go.Proofs.Ytkdplgcffdaoaaa
set_option linter.unusedSimpArgs false
set_option linter.unusedVariables false
open Go Go.RowKit
set_option linter.unusedVariables false

theorem tagged_walk (n : Int) (w : World) : Calls Try.prog 18 #[.int .i64 n] w fun e w' => e = .returned (.bool (taggedB n)) ∧ w = w' := by
  by_cases h : n = 3
  · subst h
    go_enter Try.func18, Try.ntmps18
    go_wp2_with fail
    go_ret
    exact ⟨rfl, rfl⟩
  · go_enter Try.func18, Try.ntmps18
    go_wp2_with fail
    go_ret
    exact ⟨by unfold taggedB; congr 1, rfl⟩
theorem recF_len {rd : Bool} {r r' : Rec} {s s' : List UInt8} (h : recF rd r s = some (r', s')) (hx : rd = false → recOk r = true) : s'.length ≤ s.length + 85 := by
  unfold recF at h
  cases rd with
  | true =>
    simp only [if_true] at h
    have := congrArg List.length (recTake_back h).1
    rw [List.length_append] at this
    omega
  | false =>
    simp only [Bool.false_eq_true, if_false, Option.some.injEq, Prod.mk.injEq] at h
    have := recPut_length (hx rfl)
    rw [← h.2, List.length_append]; omega
theorem rcpF_len {rd : Bool} {r r' : Rcp} {s s' : List UInt8} (h : rcpF rd r s = some (r', s')) (hx : rd = false → rcpOk r = true) : s'.length ≤ s.length + 200 := by
  unfold rcpF at h
  cases rd with
  | true =>
    simp only [if_true] at h
    have := congrArg List.length (rcpTake_back h).1
    rw [List.length_append] at this
    omega
  | false =>
    simp only [Bool.false_eq_true, if_false, Option.some.injEq, Prod.mk.injEq] at h
    have := rcpPut_length (hx rfl)
    rw [← h.2, List.length_append]; omega
theorem PathIn.same {S : List Nat} {w : World} {v : Value} {xs ys : List ByteArray} (h : PathIn S w v xs) (e : xs = ys) : PathIn S w v ys := e ▸ h
set_option maxRecDepth 100000 in
set_option maxHeartbeats 4000000 in
theorem parts_2 (q : Nat) (s : ByteArray) (rd br : Bool) (b : Nat) (epoch seq : Int) (nonce tag last : ByteArray) (askE askL : Int) (sr : Rec) (stg : ByteArray) (told : ToldD) (rcp : Rcp) (u l : Value) (w : World) (hp : PartAt w q s rd br) (hb : Blk w b ((⟨2, epoch, seq, nonce, tag, last, askE, askL, ⟨sr, stg⟩, told, rcp⟩ : MsgD).cells u l) 39) (hbq : b ≠ q)
    (hu : PathIn [q, b] w u told.up) (hl : PathIn [q, b] w l told.left) (hz : rd = true → (u = .slice none 0 0 ∧ told.up = []) ∧ (l = .slice none 0 0 ∧ told.left = []))
    (hw : rd = false → saysOk (⟨2, epoch, seq, nonce, tag, last, askE, askL, ⟨sr, stg⟩, told, rcp⟩ : MsgD) = true ∧ nonce.size ≤ 1000 ∧ tag.size ≤ 1000 ∧ last.size ≤ 1000 ∧ stg.size ≤ 1000) (hs : s.size ≤ 1000000) :
    Calls Try.prog 35 #[.pointer (some ⟨q, 0, none⟩), .pointer (some ⟨b, 0, none⟩)] w
      (EndsM w q b rd br (partsF rd br (⟨2, epoch, seq, nonce, tag, last, askE, askL, ⟨sr, stg⟩, told, rcp⟩ : MsgD) s.data.toList)) := by
  have CN := Lib.hid (fun h => (hw h).2.1)
  have CT := Lib.hid (fun h => (hw h).2.2.1)
  have CL := Lib.hid (fun h => (hw h).2.2.2.1)
  have CS := Lib.hid (fun h => (hw h).2.2.2.2)
  have HZ := Lib.hid hz
  have C1 := Lib.hid (show rd = false → 0 ≤ epoch ∧ epoch.toNat < 256 ^ 4 from fun h => by
    have := (hw h).1
    simp [saysOk, epochOk] at this; omega)
  have HP0 := Lib.hid hp; have B0 := Lib.hid hb; have T0 : Hid (Turned [q, b] w w) := Lib.hid (Turned.refl _ _)
  have Qu0 := Lib.hid hu; have Ql0 := Lib.hid hl
  have HLEN := Lib.hid (show s.data.toList.length ≤ s.size + 0 from Nat.le_refl _)
  have ck := hb.cell (i := 0) rfl

  clear hp hb hu hl hz hw
  go_enter Try.func35, Try.ntmps35
  go_wp2_with fail
  refine (wide_any q s rd br b 3 nonce _ 39 _ HP0.out B0.out rfl hbq (by omega) (fun h => by have := CN.out h; omega)).mono ?_
  rintro e' w1 he
  cases h1 : strF rd nonce s.data.toList with
  | none =>
    rw [h1] at he
    obtain ⟨rfl, hbad⟩ := he
    have HF := Lib.hid (show partsF rd br (⟨2, epoch, seq, nonce, tag, last, askE, askL, ⟨sr, stg⟩, told, rcp⟩ : MsgD) s.data.toList = none by simp [partsF, nonceF, restF, tagF, taggedB, h1])
    have HBAD := Lib.hid (hbad.sofar T0.out)
    clear hbad h1
    go_wp2_with fail
    refine ⟨rfl, ?_⟩
    rw [HF.out]
    exact ⟨rfl, HBAD.out⟩
  | some p =>
    obtain ⟨x1, s1⟩ := p
    rw [h1] at he
    obtain ⟨rfl, hd⟩ := he
    obtain ⟨p1, tp1, hp1⟩ := hd.part
    have L1 : s1.length ≤ s.size + 1000 := by have := strF_len' h1 CN.out; have := HLEN.out; omega
    have hs1 : p1.size ≤ s.size + 1000 := by rw [tp1.size]; omega
    have B1 : Hid (Blk w1 b ((⟨2, epoch, seq, x1, tag, last, askE, askL, ⟨sr, stg⟩, told, rcp⟩ : MsgD).cells u l) 39) := Lib.hid hd.blk
    have T1 := Lib.hid (T0.out.trans hd.turned)
    have H1 := Lib.hid h1; have TP1 := Lib.hid tp1; have HP1 := Lib.hid hp1
    have Qu1 := Lib.hid (Qu0.out.turned hd.turned)
    have Ql1 := Lib.hid (Ql0.out.turned hd.turned)
    clear hd h1 tp1 hp1
    have ck1 := B1.out.cell (i := 0) rfl
    go_wp2_with fail
    refine (number_any q p1 rd br b 1 4 epoch _ 39 _ HP1.out B1.out rfl hbq (by omega) (by omega) C1.out (by omega)).mono ?_
    rintro e' w2 he
    rw [show p1.data.toList = s1 from TP1.out] at he
    cases h2 : numF rd 4 epoch s1 with
    | none =>
      rw [h2] at he
      obtain ⟨rfl, hbad⟩ := he
      have HF := Lib.hid (show partsF rd br (⟨2, epoch, seq, nonce, tag, last, askE, askL, ⟨sr, stg⟩, told, rcp⟩ : MsgD) s.data.toList = none by simp [partsF, nonceF, restF, tagF, taggedB, H1.out, h2])
      have HBAD := Lib.hid (hbad.sofar T1.out)
      clear hbad h2
      go_wp2_with fail
      refine ⟨rfl, ?_⟩
      rw [HF.out]
      exact ⟨rfl, HBAD.out⟩
    | some p =>
      obtain ⟨x2, s2⟩ := p
      rw [h2] at he
      obtain ⟨rfl, hd⟩ := he
      obtain ⟨p2, tp2, hp2⟩ := hd.part
      have L2 : s2.length ≤ s.size + 1004 := by have := numF_len h2; have := L1; omega
      have hs2 : p2.size ≤ s.size + 1004 := by rw [tp2.size]; omega
      have B2 : Hid (Blk w2 b ((⟨2, x2, seq, x1, tag, last, askE, askL, ⟨sr, stg⟩, told, rcp⟩ : MsgD).cells u l) 39) := Lib.hid hd.blk
      have T2 := Lib.hid (T1.out.trans hd.turned)
      have H2 := Lib.hid h2; have TP2 := Lib.hid tp2; have HP2 := Lib.hid hp2
      have Qu2 := Lib.hid (Qu1.out.turned hd.turned)
      have Ql2 := Lib.hid (Ql1.out.turned hd.turned)
      clear hd h2 tp2 hp2
      have ck2 := B2.out.cell (i := 0) rfl
      go_wp2_with fail
      refine (tagged_walk 2 _).mono ?_
      rintro e' wt ⟨rfl, rfl⟩
      rw [show taggedB 2 = false from rfl]
      go_wp2_with fail
      first | go_end0 | ((try simp only [Exit.inBlock, Exit.then]); refine bodyPost_ret (results_none rfl _ _ _) rfl ?_)
      have HF := Lib.hid (show partsF rd br (⟨2, epoch, seq, nonce, tag, last, askE, askL, ⟨sr, stg⟩, told, rcp⟩ : MsgD) s.data.toList = some ((⟨2, x2, seq, x1, tag, last, askE, askL, ⟨sr, stg⟩, told, rcp⟩ : MsgD), s2) by simp [partsF, nonceF, restF, tagF, taggedB, H1.out, H2.out])
      rw [HF.out]
      exact ⟨rfl, u, l, ⟨⟨p2, TP2.out, HP2.out⟩, B2.out, T2.out⟩, Qu2.out, Ql2.out⟩
set_option maxRecDepth 100000 in
set_option maxHeartbeats 4000000 in
theorem parts_3 (q : Nat) (s : ByteArray) (rd br : Bool) (b : Nat) (epoch seq : Int) (nonce tag last : ByteArray) (askE askL : Int) (sr : Rec) (stg : ByteArray) (told : ToldD) (rcp : Rcp) (u l : Value) (w : World) (hp : PartAt w q s rd br) (hb : Blk w b ((⟨3, epoch, seq, nonce, tag, last, askE, askL, ⟨sr, stg⟩, told, rcp⟩ : MsgD).cells u l) 39) (hbq : b ≠ q)
    (hu : PathIn [q, b] w u told.up) (hl : PathIn [q, b] w l told.left) (hz : rd = true → (u = .slice none 0 0 ∧ told.up = []) ∧ (l = .slice none 0 0 ∧ told.left = []))
    (hw : rd = false → saysOk (⟨3, epoch, seq, nonce, tag, last, askE, askL, ⟨sr, stg⟩, told, rcp⟩ : MsgD) = true ∧ nonce.size ≤ 1000 ∧ tag.size ≤ 1000 ∧ last.size ≤ 1000 ∧ stg.size ≤ 1000) (hs : s.size ≤ 1000000) :
    Calls Try.prog 35 #[.pointer (some ⟨q, 0, none⟩), .pointer (some ⟨b, 0, none⟩)] w
      (EndsM w q b rd br (partsF rd br (⟨3, epoch, seq, nonce, tag, last, askE, askL, ⟨sr, stg⟩, told, rcp⟩ : MsgD) s.data.toList)) := by
  have CN := Lib.hid (fun h => (hw h).2.1)
  have CT := Lib.hid (fun h => (hw h).2.2.1)
  have CL := Lib.hid (fun h => (hw h).2.2.2.1)
  have CS := Lib.hid (fun h => (hw h).2.2.2.2)
  have HZ := Lib.hid hz
  have C1 := Lib.hid (show rd = false → 0 ≤ epoch ∧ epoch.toNat < 256 ^ 4 from fun h => by
    have := (hw h).1
    simp [saysOk, epochOk] at this; omega)
  have HP0 := Lib.hid hp; have B0 := Lib.hid hb; have T0 : Hid (Turned [q, b] w w) := Lib.hid (Turned.refl _ _)
  have Qu0 := Lib.hid hu; have Ql0 := Lib.hid hl
  have HLEN := Lib.hid (show s.data.toList.length ≤ s.size + 0 from Nat.le_refl _)
  have ck := hb.cell (i := 0) rfl

  clear hp hb hu hl hz hw
  go_enter Try.func35, Try.ntmps35
  go_wp2_with fail
  refine (wide_any q s rd br b 3 nonce _ 39 _ HP0.out B0.out rfl hbq (by omega) (fun h => by have := CN.out h; omega)).mono ?_
  rintro e' w1 he
  cases h1 : strF rd nonce s.data.toList with
  | none =>
    rw [h1] at he
    obtain ⟨rfl, hbad⟩ := he
    have HF := Lib.hid (show partsF rd br (⟨3, epoch, seq, nonce, tag, last, askE, askL, ⟨sr, stg⟩, told, rcp⟩ : MsgD) s.data.toList = none by simp [partsF, nonceF, restF, tagF, taggedB, h1])
    have HBAD := Lib.hid (hbad.sofar T0.out)
    clear hbad h1
    go_wp2_with fail
    refine ⟨rfl, ?_⟩
    rw [HF.out]
    exact ⟨rfl, HBAD.out⟩
  | some p =>
    obtain ⟨x1, s1⟩ := p
    rw [h1] at he
    obtain ⟨rfl, hd⟩ := he
    obtain ⟨p1, tp1, hp1⟩ := hd.part
    have L1 : s1.length ≤ s.size + 1000 := by have := strF_len' h1 CN.out; have := HLEN.out; omega
    have hs1 : p1.size ≤ s.size + 1000 := by rw [tp1.size]; omega
    have B1 : Hid (Blk w1 b ((⟨3, epoch, seq, x1, tag, last, askE, askL, ⟨sr, stg⟩, told, rcp⟩ : MsgD).cells u l) 39) := Lib.hid hd.blk
    have T1 := Lib.hid (T0.out.trans hd.turned)
    have H1 := Lib.hid h1; have TP1 := Lib.hid tp1; have HP1 := Lib.hid hp1
    have Qu1 := Lib.hid (Qu0.out.turned hd.turned)
    have Ql1 := Lib.hid (Ql0.out.turned hd.turned)
    clear hd h1 tp1 hp1
    have ck1 := B1.out.cell (i := 0) rfl
    go_wp2_with fail
    refine (number_any q p1 rd br b 1 4 epoch _ 39 _ HP1.out B1.out rfl hbq (by omega) (by omega) C1.out (by omega)).mono ?_
    rintro e' w2 he
    rw [show p1.data.toList = s1 from TP1.out] at he
    cases h2 : numF rd 4 epoch s1 with
    | none =>
      rw [h2] at he
      obtain ⟨rfl, hbad⟩ := he
      have HF := Lib.hid (show partsF rd br (⟨3, epoch, seq, nonce, tag, last, askE, askL, ⟨sr, stg⟩, told, rcp⟩ : MsgD) s.data.toList = none by simp [partsF, nonceF, restF, tagF, taggedB, H1.out, h2])
      have HBAD := Lib.hid (hbad.sofar T1.out)
      clear hbad h2
      go_wp2_with fail
      refine ⟨rfl, ?_⟩
      rw [HF.out]
      exact ⟨rfl, HBAD.out⟩
    | some p =>
      obtain ⟨x2, s2⟩ := p
      rw [h2] at he
      obtain ⟨rfl, hd⟩ := he
      obtain ⟨p2, tp2, hp2⟩ := hd.part
      have L2 : s2.length ≤ s.size + 1004 := by have := numF_len h2; have := L1; omega
      have hs2 : p2.size ≤ s.size + 1004 := by rw [tp2.size]; omega
      have B2 : Hid (Blk w2 b ((⟨3, x2, seq, x1, tag, last, askE, askL, ⟨sr, stg⟩, told, rcp⟩ : MsgD).cells u l) 39) := Lib.hid hd.blk
      have T2 := Lib.hid (T1.out.trans hd.turned)
      have H2 := Lib.hid h2; have TP2 := Lib.hid tp2; have HP2 := Lib.hid hp2
      have Qu2 := Lib.hid (Qu1.out.turned hd.turned)
      have Ql2 := Lib.hid (Ql1.out.turned hd.turned)
      clear hd h2 tp2 hp2
      have ck2 := B2.out.cell (i := 0) rfl
      go_wp2_with fail
      refine (tagged_walk 3 _).mono ?_
      rintro e' wt ⟨rfl, rfl⟩
      rw [show taggedB 3 = true from rfl]
      have cbr := HP2.out.c2
      cases br with
      | true =>
        go_wp2_with fail
        first | go_end0 | ((try simp only [Exit.inBlock, Exit.then]); refine bodyPost_ret (results_none rfl _ _ _) rfl ?_)
        have HF := Lib.hid (show partsF rd true (⟨3, epoch, seq, nonce, tag, last, askE, askL, ⟨sr, stg⟩, told, rcp⟩ : MsgD) s.data.toList = some ((⟨3, x2, seq, x1, tag, last, askE, askL, ⟨sr, stg⟩, told, rcp⟩ : MsgD), s2) by simp [partsF, nonceF, restF, tagF, taggedB, H1.out, H2.out])
        rw [HF.out]
        exact ⟨rfl, u, l, ⟨⟨p2, TP2.out, HP2.out⟩, B2.out, T2.out⟩, Qu2.out, Ql2.out⟩
      | false =>
        go_wp2_with fail
        refine (wide_any q p2 rd false b 4 tag _ 39 _ HP2.out B2.out rfl hbq (by omega) (fun h => by have := CT.out h; omega)).mono ?_
        rintro e' w3 he
        rw [show p2.data.toList = s2 from TP2.out] at he
        cases h3 : strF rd tag s2 with
        | none =>
          rw [h3] at he
          obtain ⟨rfl, hbad⟩ := he
          have HF := Lib.hid (show partsF rd false (⟨3, epoch, seq, nonce, tag, last, askE, askL, ⟨sr, stg⟩, told, rcp⟩ : MsgD) s.data.toList = none by simp [partsF, nonceF, restF, tagF, taggedB, H1.out, H2.out, h3])
          have HBAD := Lib.hid (hbad.sofar T2.out)
          clear hbad h3
          go_wp2_with fail
          refine ⟨rfl, ?_⟩
          rw [HF.out]
          exact ⟨rfl, HBAD.out⟩
        | some p =>
          obtain ⟨x3, s3⟩ := p
          rw [h3] at he
          obtain ⟨rfl, hd⟩ := he
          obtain ⟨p3, tp3, hp3⟩ := hd.part
          have L3 : s3.length ≤ s.size + 2004 := by have := strF_len' h3 CT.out; have := L2; omega
          have hs3 : p3.size ≤ s.size + 2004 := by rw [tp3.size]; omega
          have B3 : Hid (Blk w3 b ((⟨3, x2, seq, x1, x3, last, askE, askL, ⟨sr, stg⟩, told, rcp⟩ : MsgD).cells u l) 39) := Lib.hid hd.blk
          have T3 := Lib.hid (T2.out.trans hd.turned)
          have H3 := Lib.hid h3; have TP3 := Lib.hid tp3; have HP3 := Lib.hid hp3
          have Qu3 := Lib.hid (Qu2.out.turned hd.turned)
          have Ql3 := Lib.hid (Ql2.out.turned hd.turned)
          clear hd h3 tp3 hp3
          have ck3 := B3.out.cell (i := 0) rfl
          go_wp2_with fail
          first | go_end0 | ((try simp only [Exit.inBlock, Exit.then]); refine bodyPost_ret (results_none rfl _ _ _) rfl ?_)
          have HF := Lib.hid (show partsF rd false (⟨3, epoch, seq, nonce, tag, last, askE, askL, ⟨sr, stg⟩, told, rcp⟩ : MsgD) s.data.toList = some ((⟨3, x2, seq, x1, x3, last, askE, askL, ⟨sr, stg⟩, told, rcp⟩ : MsgD), s3) by simp [partsF, nonceF, restF, tagF, taggedB, H1.out, H2.out, H3.out])
          rw [HF.out]
          exact ⟨rfl, u, l, ⟨⟨p3, TP3.out, HP3.out⟩, B3.out, T3.out⟩, Qu3.out, Ql3.out⟩
set_option maxRecDepth 100000 in
set_option maxHeartbeats 4000000 in
theorem parts_4 (q : Nat) (s : ByteArray) (rd br : Bool) (b : Nat) (epoch seq : Int) (nonce tag last : ByteArray) (askE askL : Int) (sr : Rec) (stg : ByteArray) (told : ToldD) (rcp : Rcp) (u l : Value) (w : World) (hp : PartAt w q s rd br) (hb : Blk w b ((⟨4, epoch, seq, nonce, tag, last, askE, askL, ⟨sr, stg⟩, told, rcp⟩ : MsgD).cells u l) 39) (hbq : b ≠ q)
    (hu : PathIn [q, b] w u told.up) (hl : PathIn [q, b] w l told.left) (hz : rd = true → (u = .slice none 0 0 ∧ told.up = []) ∧ (l = .slice none 0 0 ∧ told.left = []))
    (hw : rd = false → saysOk (⟨4, epoch, seq, nonce, tag, last, askE, askL, ⟨sr, stg⟩, told, rcp⟩ : MsgD) = true ∧ nonce.size ≤ 1000 ∧ tag.size ≤ 1000 ∧ last.size ≤ 1000 ∧ stg.size ≤ 1000) (hs : s.size ≤ 1000000) :
    Calls Try.prog 35 #[.pointer (some ⟨q, 0, none⟩), .pointer (some ⟨b, 0, none⟩)] w
      (EndsM w q b rd br (partsF rd br (⟨4, epoch, seq, nonce, tag, last, askE, askL, ⟨sr, stg⟩, told, rcp⟩ : MsgD) s.data.toList)) := by
  have CN := Lib.hid (fun h => (hw h).2.1)
  have CT := Lib.hid (fun h => (hw h).2.2.1)
  have CL := Lib.hid (fun h => (hw h).2.2.2.1)
  have CS := Lib.hid (fun h => (hw h).2.2.2.2)
  have HZ := Lib.hid hz
  have C1 := Lib.hid (show rd = false → 0 ≤ epoch ∧ epoch.toNat < 256 ^ 4 from fun h => by
    have := (hw h).1
    simp [saysOk, epochOk] at this; omega)
  have C2 := Lib.hid (show rd = false → 0 ≤ seq ∧ seq.toNat < 256 ^ 4 from fun h => by
    have := (hw h).1
    simp [saysOk, epochOk] at this; omega)
  have HP0 := Lib.hid hp; have B0 := Lib.hid hb; have T0 : Hid (Turned [q, b] w w) := Lib.hid (Turned.refl _ _)
  have Qu0 := Lib.hid hu; have Ql0 := Lib.hid hl
  have HLEN := Lib.hid (show s.data.toList.length ≤ s.size + 0 from Nat.le_refl _)
  have ck := hb.cell (i := 0) rfl

  clear hp hb hu hl hz hw
  go_enter Try.func35, Try.ntmps35
  go_wp2_with fail
  refine (wide_any q s rd br b 3 nonce _ 39 _ HP0.out B0.out rfl hbq (by omega) (fun h => by have := CN.out h; omega)).mono ?_
  rintro e' w1 he
  cases h1 : strF rd nonce s.data.toList with
  | none =>
    rw [h1] at he
    obtain ⟨rfl, hbad⟩ := he
    have HF := Lib.hid (show partsF rd br (⟨4, epoch, seq, nonce, tag, last, askE, askL, ⟨sr, stg⟩, told, rcp⟩ : MsgD) s.data.toList = none by simp [partsF, nonceF, restF, tagF, taggedB, h1])
    have HBAD := Lib.hid (hbad.sofar T0.out)
    clear hbad h1
    go_wp2_with fail
    refine ⟨rfl, ?_⟩
    rw [HF.out]
    exact ⟨rfl, HBAD.out⟩
  | some p =>
    obtain ⟨x1, s1⟩ := p
    rw [h1] at he
    obtain ⟨rfl, hd⟩ := he
    obtain ⟨p1, tp1, hp1⟩ := hd.part
    have L1 : s1.length ≤ s.size + 1000 := by have := strF_len' h1 CN.out; have := HLEN.out; omega
    have hs1 : p1.size ≤ s.size + 1000 := by rw [tp1.size]; omega
    have B1 : Hid (Blk w1 b ((⟨4, epoch, seq, x1, tag, last, askE, askL, ⟨sr, stg⟩, told, rcp⟩ : MsgD).cells u l) 39) := Lib.hid hd.blk
    have T1 := Lib.hid (T0.out.trans hd.turned)
    have H1 := Lib.hid h1; have TP1 := Lib.hid tp1; have HP1 := Lib.hid hp1
    have Qu1 := Lib.hid (Qu0.out.turned hd.turned)
    have Ql1 := Lib.hid (Ql0.out.turned hd.turned)
    clear hd h1 tp1 hp1
    have ck1 := B1.out.cell (i := 0) rfl
    go_wp2_with fail
    refine (number_any q p1 rd br b 1 4 epoch _ 39 _ HP1.out B1.out rfl hbq (by omega) (by omega) C1.out (by omega)).mono ?_
    rintro e' w2 he
    rw [show p1.data.toList = s1 from TP1.out] at he
    cases h2 : numF rd 4 epoch s1 with
    | none =>
      rw [h2] at he
      obtain ⟨rfl, hbad⟩ := he
      have HF := Lib.hid (show partsF rd br (⟨4, epoch, seq, nonce, tag, last, askE, askL, ⟨sr, stg⟩, told, rcp⟩ : MsgD) s.data.toList = none by simp [partsF, nonceF, restF, tagF, taggedB, H1.out, h2])
      have HBAD := Lib.hid (hbad.sofar T1.out)
      clear hbad h2
      go_wp2_with fail
      refine ⟨rfl, ?_⟩
      rw [HF.out]
      exact ⟨rfl, HBAD.out⟩
    | some p =>
      obtain ⟨x2, s2⟩ := p
      rw [h2] at he
      obtain ⟨rfl, hd⟩ := he
      obtain ⟨p2, tp2, hp2⟩ := hd.part
      have L2 : s2.length ≤ s.size + 1004 := by have := numF_len h2; have := L1; omega
      have hs2 : p2.size ≤ s.size + 1004 := by rw [tp2.size]; omega
      have B2 : Hid (Blk w2 b ((⟨4, x2, seq, x1, tag, last, askE, askL, ⟨sr, stg⟩, told, rcp⟩ : MsgD).cells u l) 39) := Lib.hid hd.blk
      have T2 := Lib.hid (T1.out.trans hd.turned)
      have H2 := Lib.hid h2; have TP2 := Lib.hid tp2; have HP2 := Lib.hid hp2
      have Qu2 := Lib.hid (Qu1.out.turned hd.turned)
      have Ql2 := Lib.hid (Ql1.out.turned hd.turned)
      clear hd h2 tp2 hp2
      have ck2 := B2.out.cell (i := 0) rfl
      go_wp2_with fail
      refine (number_any q p2 rd br b 2 4 seq _ 39 _ HP2.out B2.out rfl hbq (by omega) (by omega) C2.out (by omega)).mono ?_
      rintro e' w3 he
      rw [show p2.data.toList = s2 from TP2.out] at he
      cases h3 : numF rd 4 seq s2 with
      | none =>
        rw [h3] at he
        obtain ⟨rfl, hbad⟩ := he
        have HF := Lib.hid (show partsF rd br (⟨4, epoch, seq, nonce, tag, last, askE, askL, ⟨sr, stg⟩, told, rcp⟩ : MsgD) s.data.toList = none by simp [partsF, nonceF, restF, tagF, taggedB, H1.out, H2.out, h3])
        have HBAD := Lib.hid (hbad.sofar T2.out)
        clear hbad h3
        go_wp2_with fail
        refine ⟨rfl, ?_⟩
        rw [HF.out]
        exact ⟨rfl, HBAD.out⟩
      | some p =>
        obtain ⟨x3, s3⟩ := p
        rw [h3] at he
        obtain ⟨rfl, hd⟩ := he
        obtain ⟨p3, tp3, hp3⟩ := hd.part
        have L3 : s3.length ≤ s.size + 1008 := by have := numF_len h3; have := L2; omega
        have hs3 : p3.size ≤ s.size + 1008 := by rw [tp3.size]; omega
        have B3 : Hid (Blk w3 b ((⟨4, x2, x3, x1, tag, last, askE, askL, ⟨sr, stg⟩, told, rcp⟩ : MsgD).cells u l) 39) := Lib.hid hd.blk
        have T3 := Lib.hid (T2.out.trans hd.turned)
        have H3 := Lib.hid h3; have TP3 := Lib.hid tp3; have HP3 := Lib.hid hp3
        have Qu3 := Lib.hid (Qu2.out.turned hd.turned)
        have Ql3 := Lib.hid (Ql2.out.turned hd.turned)
        clear hd h3 tp3 hp3
        have ck3 := B3.out.cell (i := 0) rfl
        go_wp2_with fail
        refine (wide_any q p3 rd br b 5 last _ 39 _ HP3.out B3.out rfl hbq (by omega) (fun h => by have := CL.out h; omega)).mono ?_
        rintro e' w4 he
        rw [show p3.data.toList = s3 from TP3.out] at he
        cases h4 : strF rd last s3 with
        | none =>
          rw [h4] at he
          obtain ⟨rfl, hbad⟩ := he
          have HF := Lib.hid (show partsF rd br (⟨4, epoch, seq, nonce, tag, last, askE, askL, ⟨sr, stg⟩, told, rcp⟩ : MsgD) s.data.toList = none by simp [partsF, nonceF, restF, tagF, taggedB, H1.out, H2.out, H3.out, h4])
          have HBAD := Lib.hid (hbad.sofar T3.out)
          clear hbad h4
          go_wp2_with fail
          refine ⟨rfl, ?_⟩
          rw [HF.out]
          exact ⟨rfl, HBAD.out⟩
        | some p =>
          obtain ⟨x4, s4⟩ := p
          rw [h4] at he
          obtain ⟨rfl, hd⟩ := he
          obtain ⟨p4, tp4, hp4⟩ := hd.part
          have L4 : s4.length ≤ s.size + 2008 := by have := strF_len' h4 CL.out; have := L3; omega
          have hs4 : p4.size ≤ s.size + 2008 := by rw [tp4.size]; omega
          have B4 : Hid (Blk w4 b ((⟨4, x2, x3, x1, tag, x4, askE, askL, ⟨sr, stg⟩, told, rcp⟩ : MsgD).cells u l) 39) := Lib.hid hd.blk
          have T4 := Lib.hid (T3.out.trans hd.turned)
          have H4 := Lib.hid h4; have TP4 := Lib.hid tp4; have HP4 := Lib.hid hp4
          have Qu4 := Lib.hid (Qu3.out.turned hd.turned)
          have Ql4 := Lib.hid (Ql3.out.turned hd.turned)
          clear hd h4 tp4 hp4
          have ck4 := B4.out.cell (i := 0) rfl
          go_wp2_with fail
          refine (tagged_walk 4 _).mono ?_
          rintro e' wt ⟨rfl, rfl⟩
          rw [show taggedB 4 = true from rfl]
          have cbr := HP4.out.c2
          cases br with
          | true =>
            go_wp2_with fail
            first | go_end0 | ((try simp only [Exit.inBlock, Exit.then]); refine bodyPost_ret (results_none rfl _ _ _) rfl ?_)
            have HF := Lib.hid (show partsF rd true (⟨4, epoch, seq, nonce, tag, last, askE, askL, ⟨sr, stg⟩, told, rcp⟩ : MsgD) s.data.toList = some ((⟨4, x2, x3, x1, tag, x4, askE, askL, ⟨sr, stg⟩, told, rcp⟩ : MsgD), s4) by simp [partsF, nonceF, restF, tagF, taggedB, H1.out, H2.out, H3.out, H4.out])
            rw [HF.out]
            exact ⟨rfl, u, l, ⟨⟨p4, TP4.out, HP4.out⟩, B4.out, T4.out⟩, Qu4.out, Ql4.out⟩
          | false =>
            go_wp2_with fail
            refine (wide_any q p4 rd false b 4 tag _ 39 _ HP4.out B4.out rfl hbq (by omega) (fun h => by have := CT.out h; omega)).mono ?_
            rintro e' w5 he
            rw [show p4.data.toList = s4 from TP4.out] at he
            cases h5 : strF rd tag s4 with
            | none =>
              rw [h5] at he
              obtain ⟨rfl, hbad⟩ := he
              have HF := Lib.hid (show partsF rd false (⟨4, epoch, seq, nonce, tag, last, askE, askL, ⟨sr, stg⟩, told, rcp⟩ : MsgD) s.data.toList = none by simp [partsF, nonceF, restF, tagF, taggedB, H1.out, H2.out, H3.out, H4.out, h5])
              have HBAD := Lib.hid (hbad.sofar T4.out)
              clear hbad h5
              go_wp2_with fail
              refine ⟨rfl, ?_⟩
              rw [HF.out]
              exact ⟨rfl, HBAD.out⟩
            | some p =>
              obtain ⟨x5, s5⟩ := p
              rw [h5] at he
              obtain ⟨rfl, hd⟩ := he
              obtain ⟨p5, tp5, hp5⟩ := hd.part
              have L5 : s5.length ≤ s.size + 3008 := by have := strF_len' h5 CT.out; have := L4; omega
              have hs5 : p5.size ≤ s.size + 3008 := by rw [tp5.size]; omega
              have B5 : Hid (Blk w5 b ((⟨4, x2, x3, x1, x5, x4, askE, askL, ⟨sr, stg⟩, told, rcp⟩ : MsgD).cells u l) 39) := Lib.hid hd.blk
              have T5 := Lib.hid (T4.out.trans hd.turned)
              have H5 := Lib.hid h5; have TP5 := Lib.hid tp5; have HP5 := Lib.hid hp5
              have Qu5 := Lib.hid (Qu4.out.turned hd.turned)
              have Ql5 := Lib.hid (Ql4.out.turned hd.turned)
              clear hd h5 tp5 hp5
              have ck5 := B5.out.cell (i := 0) rfl
              go_wp2_with fail
              first | go_end0 | ((try simp only [Exit.inBlock, Exit.then]); refine bodyPost_ret (results_none rfl _ _ _) rfl ?_)
              have HF := Lib.hid (show partsF rd false (⟨4, epoch, seq, nonce, tag, last, askE, askL, ⟨sr, stg⟩, told, rcp⟩ : MsgD) s.data.toList = some ((⟨4, x2, x3, x1, x5, x4, askE, askL, ⟨sr, stg⟩, told, rcp⟩ : MsgD), s5) by simp [partsF, nonceF, restF, tagF, taggedB, H1.out, H2.out, H3.out, H4.out, H5.out])
              rw [HF.out]
              exact ⟨rfl, u, l, ⟨⟨p5, TP5.out, HP5.out⟩, B5.out, T5.out⟩, Qu5.out, Ql5.out⟩
set_option maxRecDepth 100000 in
set_option maxHeartbeats 4000000 in
theorem parts_5 (q : Nat) (s : ByteArray) (rd br : Bool) (b : Nat) (epoch seq : Int) (nonce tag last : ByteArray) (askE askL : Int) (sr : Rec) (stg : ByteArray) (told : ToldD) (rcp : Rcp) (u l : Value) (w : World) (hp : PartAt w q s rd br) (hb : Blk w b ((⟨5, epoch, seq, nonce, tag, last, askE, askL, ⟨sr, stg⟩, told, rcp⟩ : MsgD).cells u l) 39) (hbq : b ≠ q)
    (hu : PathIn [q, b] w u told.up) (hl : PathIn [q, b] w l told.left) (hz : rd = true → (u = .slice none 0 0 ∧ told.up = []) ∧ (l = .slice none 0 0 ∧ told.left = []))
    (hw : rd = false → saysOk (⟨5, epoch, seq, nonce, tag, last, askE, askL, ⟨sr, stg⟩, told, rcp⟩ : MsgD) = true ∧ nonce.size ≤ 1000 ∧ tag.size ≤ 1000 ∧ last.size ≤ 1000 ∧ stg.size ≤ 1000) (hs : s.size ≤ 1000000) :
    Calls Try.prog 35 #[.pointer (some ⟨q, 0, none⟩), .pointer (some ⟨b, 0, none⟩)] w
      (EndsM w q b rd br (partsF rd br (⟨5, epoch, seq, nonce, tag, last, askE, askL, ⟨sr, stg⟩, told, rcp⟩ : MsgD) s.data.toList)) := by
  have CN := Lib.hid (fun h => (hw h).2.1)
  have CT := Lib.hid (fun h => (hw h).2.2.1)
  have CL := Lib.hid (fun h => (hw h).2.2.2.1)
  have CS := Lib.hid (fun h => (hw h).2.2.2.2)
  have HZ := Lib.hid hz
  have C2 := Lib.hid (show rd = false → 0 ≤ seq ∧ seq.toNat < 256 ^ 4 from fun h => by
    have := (hw h).1
    simp [saysOk, epochOk] at this; omega)
  have HP0 := Lib.hid hp; have B0 := Lib.hid hb; have T0 : Hid (Turned [q, b] w w) := Lib.hid (Turned.refl _ _)
  have Qu0 := Lib.hid hu; have Ql0 := Lib.hid hl
  have HLEN := Lib.hid (show s.data.toList.length ≤ s.size + 0 from Nat.le_refl _)
  have ck := hb.cell (i := 0) rfl

  clear hp hb hu hl hz hw
  go_enter Try.func35, Try.ntmps35
  go_wp2_with fail
  refine (wide_any q s rd br b 3 nonce _ 39 _ HP0.out B0.out rfl hbq (by omega) (fun h => by have := CN.out h; omega)).mono ?_
  rintro e' w1 he
  cases h1 : strF rd nonce s.data.toList with
  | none =>
    rw [h1] at he
    obtain ⟨rfl, hbad⟩ := he
    have HF := Lib.hid (show partsF rd br (⟨5, epoch, seq, nonce, tag, last, askE, askL, ⟨sr, stg⟩, told, rcp⟩ : MsgD) s.data.toList = none by simp [partsF, nonceF, restF, tagF, taggedB, h1])
    have HBAD := Lib.hid (hbad.sofar T0.out)
    clear hbad h1
    go_wp2_with fail
    refine ⟨rfl, ?_⟩
    rw [HF.out]
    exact ⟨rfl, HBAD.out⟩
  | some p =>
    obtain ⟨x1, s1⟩ := p
    rw [h1] at he
    obtain ⟨rfl, hd⟩ := he
    obtain ⟨p1, tp1, hp1⟩ := hd.part
    have L1 : s1.length ≤ s.size + 1000 := by have := strF_len' h1 CN.out; have := HLEN.out; omega
    have hs1 : p1.size ≤ s.size + 1000 := by rw [tp1.size]; omega
    have B1 : Hid (Blk w1 b ((⟨5, epoch, seq, x1, tag, last, askE, askL, ⟨sr, stg⟩, told, rcp⟩ : MsgD).cells u l) 39) := Lib.hid hd.blk
    have T1 := Lib.hid (T0.out.trans hd.turned)
    have H1 := Lib.hid h1; have TP1 := Lib.hid tp1; have HP1 := Lib.hid hp1
    have Qu1 := Lib.hid (Qu0.out.turned hd.turned)
    have Ql1 := Lib.hid (Ql0.out.turned hd.turned)
    clear hd h1 tp1 hp1
    have ck1 := B1.out.cell (i := 0) rfl
    go_wp2_with fail
    refine (number_any q p1 rd br b 2 4 seq _ 39 _ HP1.out B1.out rfl hbq (by omega) (by omega) C2.out (by omega)).mono ?_
    rintro e' w2 he
    rw [show p1.data.toList = s1 from TP1.out] at he
    cases h2 : numF rd 4 seq s1 with
    | none =>
      rw [h2] at he
      obtain ⟨rfl, hbad⟩ := he
      have HF := Lib.hid (show partsF rd br (⟨5, epoch, seq, nonce, tag, last, askE, askL, ⟨sr, stg⟩, told, rcp⟩ : MsgD) s.data.toList = none by simp [partsF, nonceF, restF, tagF, taggedB, H1.out, h2])
      have HBAD := Lib.hid (hbad.sofar T1.out)
      clear hbad h2
      go_wp2_with fail
      refine ⟨rfl, ?_⟩
      rw [HF.out]
      exact ⟨rfl, HBAD.out⟩
    | some p =>
      obtain ⟨x2, s2⟩ := p
      rw [h2] at he
      obtain ⟨rfl, hd⟩ := he
      obtain ⟨p2, tp2, hp2⟩ := hd.part
      have L2 : s2.length ≤ s.size + 1004 := by have := numF_len h2; have := L1; omega
      have hs2 : p2.size ≤ s.size + 1004 := by rw [tp2.size]; omega
      have B2 : Hid (Blk w2 b ((⟨5, epoch, x2, x1, tag, last, askE, askL, ⟨sr, stg⟩, told, rcp⟩ : MsgD).cells u l) 39) := Lib.hid hd.blk
      have T2 := Lib.hid (T1.out.trans hd.turned)
      have H2 := Lib.hid h2; have TP2 := Lib.hid tp2; have HP2 := Lib.hid hp2
      have Qu2 := Lib.hid (Qu1.out.turned hd.turned)
      have Ql2 := Lib.hid (Ql1.out.turned hd.turned)
      clear hd h2 tp2 hp2
      have ck2 := B2.out.cell (i := 0) rfl
      go_wp2_with fail
      refine (tagged_walk 5 _).mono ?_
      rintro e' wt ⟨rfl, rfl⟩
      rw [show taggedB 5 = false from rfl]
      go_wp2_with fail
      first | go_end0 | ((try simp only [Exit.inBlock, Exit.then]); refine bodyPost_ret (results_none rfl _ _ _) rfl ?_)
      have HF := Lib.hid (show partsF rd br (⟨5, epoch, seq, nonce, tag, last, askE, askL, ⟨sr, stg⟩, told, rcp⟩ : MsgD) s.data.toList = some ((⟨5, epoch, x2, x1, tag, last, askE, askL, ⟨sr, stg⟩, told, rcp⟩ : MsgD), s2) by simp [partsF, nonceF, restF, tagF, taggedB, H1.out, H2.out])
      rw [HF.out]
      exact ⟨rfl, u, l, ⟨⟨p2, TP2.out, HP2.out⟩, B2.out, T2.out⟩, Qu2.out, Ql2.out⟩
set_option maxRecDepth 100000 in
set_option maxHeartbeats 4000000 in
theorem parts_6 (q : Nat) (s : ByteArray) (rd br : Bool) (b : Nat) (epoch seq : Int) (nonce tag last : ByteArray) (askE askL : Int) (sr : Rec) (stg : ByteArray) (told : ToldD) (rcp : Rcp) (u l : Value) (w : World) (hp : PartAt w q s rd br) (hb : Blk w b ((⟨6, epoch, seq, nonce, tag, last, askE, askL, ⟨sr, stg⟩, told, rcp⟩ : MsgD).cells u l) 39) (hbq : b ≠ q)
    (hu : PathIn [q, b] w u told.up) (hl : PathIn [q, b] w l told.left) (hz : rd = true → (u = .slice none 0 0 ∧ told.up = []) ∧ (l = .slice none 0 0 ∧ told.left = []))
    (hw : rd = false → saysOk (⟨6, epoch, seq, nonce, tag, last, askE, askL, ⟨sr, stg⟩, told, rcp⟩ : MsgD) = true ∧ nonce.size ≤ 1000 ∧ tag.size ≤ 1000 ∧ last.size ≤ 1000 ∧ stg.size ≤ 1000) (hs : s.size ≤ 1000000) :
    Calls Try.prog 35 #[.pointer (some ⟨q, 0, none⟩), .pointer (some ⟨b, 0, none⟩)] w
      (EndsM w q b rd br (partsF rd br (⟨6, epoch, seq, nonce, tag, last, askE, askL, ⟨sr, stg⟩, told, rcp⟩ : MsgD) s.data.toList)) := by
  have CN := Lib.hid (fun h => (hw h).2.1)
  have CT := Lib.hid (fun h => (hw h).2.2.1)
  have CL := Lib.hid (fun h => (hw h).2.2.2.1)
  have CS := Lib.hid (fun h => (hw h).2.2.2.2)
  have HZ := Lib.hid hz
  have C2 := Lib.hid (show rd = false → 0 ≤ seq ∧ seq.toNat < 256 ^ 4 from fun h => by
    have := (hw h).1
    simp [saysOk, epochOk] at this; omega)
  have C3 := Lib.hid (show rd = false → recOk sr = true from fun h => by
    have := (hw h).1
    simp [saysOk] at this; exact this.1.2)
  have HP0 := Lib.hid hp; have B0 := Lib.hid hb; have T0 : Hid (Turned [q, b] w w) := Lib.hid (Turned.refl _ _)
  have Qu0 := Lib.hid hu; have Ql0 := Lib.hid hl
  have HLEN := Lib.hid (show s.data.toList.length ≤ s.size + 0 from Nat.le_refl _)
  have ck := hb.cell (i := 0) rfl

  clear hp hb hu hl hz hw
  go_enter Try.func35, Try.ntmps35
  go_wp2_with fail
  refine (wide_any q s rd br b 3 nonce _ 39 _ HP0.out B0.out rfl hbq (by omega) (fun h => by have := CN.out h; omega)).mono ?_
  rintro e' w1 he
  cases h1 : strF rd nonce s.data.toList with
  | none =>
    rw [h1] at he
    obtain ⟨rfl, hbad⟩ := he
    have HF := Lib.hid (show partsF rd br (⟨6, epoch, seq, nonce, tag, last, askE, askL, ⟨sr, stg⟩, told, rcp⟩ : MsgD) s.data.toList = none by simp [partsF, nonceF, restF, tagF, taggedB, h1])
    have HBAD := Lib.hid (hbad.sofar T0.out)
    clear hbad h1
    go_wp2_with fail
    refine ⟨rfl, ?_⟩
    rw [HF.out]
    exact ⟨rfl, HBAD.out⟩
  | some p =>
    obtain ⟨x1, s1⟩ := p
    rw [h1] at he
    obtain ⟨rfl, hd⟩ := he
    obtain ⟨p1, tp1, hp1⟩ := hd.part
    have L1 : s1.length ≤ s.size + 1000 := by have := strF_len' h1 CN.out; have := HLEN.out; omega
    have hs1 : p1.size ≤ s.size + 1000 := by rw [tp1.size]; omega
    have B1 : Hid (Blk w1 b ((⟨6, epoch, seq, x1, tag, last, askE, askL, ⟨sr, stg⟩, told, rcp⟩ : MsgD).cells u l) 39) := Lib.hid hd.blk
    have T1 := Lib.hid (T0.out.trans hd.turned)
    have H1 := Lib.hid h1; have TP1 := Lib.hid tp1; have HP1 := Lib.hid hp1
    have Qu1 := Lib.hid (Qu0.out.turned hd.turned)
    have Ql1 := Lib.hid (Ql0.out.turned hd.turned)
    clear hd h1 tp1 hp1
    have ck1 := B1.out.cell (i := 0) rfl
    go_wp2_with fail
    refine (number_any q p1 rd br b 2 4 seq _ 39 _ HP1.out B1.out rfl hbq (by omega) (by omega) C2.out (by omega)).mono ?_
    rintro e' w2 he
    rw [show p1.data.toList = s1 from TP1.out] at he
    cases h2 : numF rd 4 seq s1 with
    | none =>
      rw [h2] at he
      obtain ⟨rfl, hbad⟩ := he
      have HF := Lib.hid (show partsF rd br (⟨6, epoch, seq, nonce, tag, last, askE, askL, ⟨sr, stg⟩, told, rcp⟩ : MsgD) s.data.toList = none by simp [partsF, nonceF, restF, tagF, taggedB, H1.out, h2])
      have HBAD := Lib.hid (hbad.sofar T1.out)
      clear hbad h2
      go_wp2_with fail
      refine ⟨rfl, ?_⟩
      rw [HF.out]
      exact ⟨rfl, HBAD.out⟩
    | some p =>
      obtain ⟨x2, s2⟩ := p
      rw [h2] at he
      obtain ⟨rfl, hd⟩ := he
      obtain ⟨p2, tp2, hp2⟩ := hd.part
      have L2 : s2.length ≤ s.size + 1004 := by have := numF_len h2; have := L1; omega
      have hs2 : p2.size ≤ s.size + 1004 := by rw [tp2.size]; omega
      have B2 : Hid (Blk w2 b ((⟨6, epoch, x2, x1, tag, last, askE, askL, ⟨sr, stg⟩, told, rcp⟩ : MsgD).cells u l) 39) := Lib.hid hd.blk
      have T2 := Lib.hid (T1.out.trans hd.turned)
      have H2 := Lib.hid h2; have TP2 := Lib.hid tp2; have HP2 := Lib.hid hp2
      have Qu2 := Lib.hid (Qu1.out.turned hd.turned)
      have Ql2 := Lib.hid (Ql1.out.turned hd.turned)
      clear hd h2 tp2 hp2
      have ck2 := B2.out.cell (i := 0) rfl
      go_wp2_with fail
      refine (record_any q p2 rd br b (⟨6, epoch, x2, x1, tag, last, askE, askL, ⟨sr, stg⟩, told, rcp⟩ : MsgD) u l _ HP2.out B2.out hbq (by omega) C3.out).mono ?_
      rintro e' w3 he
      rw [show p2.data.toList = s2 from TP2.out] at he
      cases h3 : recF rd sr s2 with
      | none =>
        rw [h3] at he
        obtain ⟨rfl, hbad⟩ := he
        have HF := Lib.hid (show partsF rd br (⟨6, epoch, seq, nonce, tag, last, askE, askL, ⟨sr, stg⟩, told, rcp⟩ : MsgD) s.data.toList = none by simp [partsF, nonceF, restF, tagF, taggedB, H1.out, H2.out, h3])
        have HBAD := Lib.hid (hbad.sofar T2.out)
        clear hbad h3
        go_wp2_with fail
        refine ⟨rfl, ?_⟩
        rw [HF.out]
        exact ⟨rfl, HBAD.out⟩
      | some p =>
        obtain ⟨x3, s3⟩ := p
        rw [h3] at he
        obtain ⟨rfl, hd⟩ := he
        obtain ⟨p3, tp3, hp3⟩ := hd.part
        have L3 : s3.length ≤ s.size + 1089 := by have := recF_len h3 C3.out; have := L2; omega
        have hs3 : p3.size ≤ s.size + 1089 := by rw [tp3.size]; omega
        have B3 : Hid (Blk w3 b ((⟨6, epoch, x2, x1, tag, last, askE, askL, ⟨x3, stg⟩, told, rcp⟩ : MsgD).cells u l) 39) := Lib.hid hd.blk
        have T3 := Lib.hid (T2.out.trans hd.turned)
        have H3 := Lib.hid h3; have TP3 := Lib.hid tp3; have HP3 := Lib.hid hp3
        have Qu3 := Lib.hid (Qu2.out.turned hd.turned)
        have Ql3 := Lib.hid (Ql2.out.turned hd.turned)
        clear hd h3 tp3 hp3
        have ck3 := B3.out.cell (i := 0) rfl
        go_wp2_with fail
        refine (wide_any q p3 rd br b 16 stg _ 39 _ HP3.out B3.out rfl hbq (by omega) (fun h => by have := CS.out h; omega)).mono ?_
        rintro e' w4 he
        rw [show p3.data.toList = s3 from TP3.out] at he
        cases h4 : strF rd stg s3 with
        | none =>
          rw [h4] at he
          obtain ⟨rfl, hbad⟩ := he
          have HF := Lib.hid (show partsF rd br (⟨6, epoch, seq, nonce, tag, last, askE, askL, ⟨sr, stg⟩, told, rcp⟩ : MsgD) s.data.toList = none by simp [partsF, nonceF, restF, tagF, taggedB, H1.out, H2.out, H3.out, h4])
          have HBAD := Lib.hid (hbad.sofar T3.out)
          clear hbad h4
          go_wp2_with fail
          refine ⟨rfl, ?_⟩
          rw [HF.out]
          exact ⟨rfl, HBAD.out⟩
        | some p =>
          obtain ⟨x4, s4⟩ := p
          rw [h4] at he
          obtain ⟨rfl, hd⟩ := he
          obtain ⟨p4, tp4, hp4⟩ := hd.part
          have L4 : s4.length ≤ s.size + 2089 := by have := strF_len' h4 CS.out; have := L3; omega
          have hs4 : p4.size ≤ s.size + 2089 := by rw [tp4.size]; omega
          have B4 : Hid (Blk w4 b ((⟨6, epoch, x2, x1, tag, last, askE, askL, ⟨x3, x4⟩, told, rcp⟩ : MsgD).cells u l) 39) := Lib.hid hd.blk
          have T4 := Lib.hid (T3.out.trans hd.turned)
          have H4 := Lib.hid h4; have TP4 := Lib.hid tp4; have HP4 := Lib.hid hp4
          have Qu4 := Lib.hid (Qu3.out.turned hd.turned)
          have Ql4 := Lib.hid (Ql3.out.turned hd.turned)
          clear hd h4 tp4 hp4
          have ck4 := B4.out.cell (i := 0) rfl
          go_wp2_with fail
          refine (tagged_walk 6 _).mono ?_
          rintro e' wt ⟨rfl, rfl⟩
          rw [show taggedB 6 = false from rfl]
          go_wp2_with fail
          first | go_end0 | ((try simp only [Exit.inBlock, Exit.then]); refine bodyPost_ret (results_none rfl _ _ _) rfl ?_)
          have HF := Lib.hid (show partsF rd br (⟨6, epoch, seq, nonce, tag, last, askE, askL, ⟨sr, stg⟩, told, rcp⟩ : MsgD) s.data.toList = some ((⟨6, epoch, x2, x1, tag, last, askE, askL, ⟨x3, x4⟩, told, rcp⟩ : MsgD), s4) by simp [partsF, nonceF, restF, tagF, taggedB, H1.out, H2.out, H3.out, H4.out])
          rw [HF.out]
          exact ⟨rfl, u, l, ⟨⟨p4, TP4.out, HP4.out⟩, B4.out, T4.out⟩, Qu4.out, Ql4.out⟩
set_option maxRecDepth 100000 in
set_option maxHeartbeats 4000000 in
theorem parts_7 (q : Nat) (s : ByteArray) (rd br : Bool) (b : Nat) (epoch seq : Int) (nonce tag last : ByteArray) (askE askL : Int) (sr : Rec) (stg : ByteArray) (told : ToldD) (rcp : Rcp) (u l : Value) (w : World) (hp : PartAt w q s rd br) (hb : Blk w b ((⟨7, epoch, seq, nonce, tag, last, askE, askL, ⟨sr, stg⟩, told, rcp⟩ : MsgD).cells u l) 39) (hbq : b ≠ q)
    (hu : PathIn [q, b] w u told.up) (hl : PathIn [q, b] w l told.left) (hz : rd = true → (u = .slice none 0 0 ∧ told.up = []) ∧ (l = .slice none 0 0 ∧ told.left = []))
    (hw : rd = false → saysOk (⟨7, epoch, seq, nonce, tag, last, askE, askL, ⟨sr, stg⟩, told, rcp⟩ : MsgD) = true ∧ nonce.size ≤ 1000 ∧ tag.size ≤ 1000 ∧ last.size ≤ 1000 ∧ stg.size ≤ 1000) (hs : s.size ≤ 1000000) :
    Calls Try.prog 35 #[.pointer (some ⟨q, 0, none⟩), .pointer (some ⟨b, 0, none⟩)] w
      (EndsM w q b rd br (partsF rd br (⟨7, epoch, seq, nonce, tag, last, askE, askL, ⟨sr, stg⟩, told, rcp⟩ : MsgD) s.data.toList)) := by
  have CN := Lib.hid (fun h => (hw h).2.1)
  have CT := Lib.hid (fun h => (hw h).2.2.1)
  have CL := Lib.hid (fun h => (hw h).2.2.2.1)
  have CS := Lib.hid (fun h => (hw h).2.2.2.2)
  have HZ := Lib.hid hz
  have C4 := Lib.hid (show rd = false → askOk askE askL = true from fun h => by
    have := (hw h).1
    simp [saysOk] at this; exact this)
  have HP0 := Lib.hid hp; have B0 := Lib.hid hb; have T0 : Hid (Turned [q, b] w w) := Lib.hid (Turned.refl _ _)
  have Qu0 := Lib.hid hu; have Ql0 := Lib.hid hl
  have HLEN := Lib.hid (show s.data.toList.length ≤ s.size + 0 from Nat.le_refl _)
  have ck := hb.cell (i := 0) rfl

  clear hp hb hu hl hz hw
  go_enter Try.func35, Try.ntmps35
  go_wp2_with fail
  refine (wide_any q s rd br b 3 nonce _ 39 _ HP0.out B0.out rfl hbq (by omega) (fun h => by have := CN.out h; omega)).mono ?_
  rintro e' w1 he
  cases h1 : strF rd nonce s.data.toList with
  | none =>
    rw [h1] at he
    obtain ⟨rfl, hbad⟩ := he
    have HF := Lib.hid (show partsF rd br (⟨7, epoch, seq, nonce, tag, last, askE, askL, ⟨sr, stg⟩, told, rcp⟩ : MsgD) s.data.toList = none by simp [partsF, nonceF, restF, tagF, taggedB, h1])
    have HBAD := Lib.hid (hbad.sofar T0.out)
    clear hbad h1
    go_wp2_with fail
    refine ⟨rfl, ?_⟩
    rw [HF.out]
    exact ⟨rfl, HBAD.out⟩
  | some p =>
    obtain ⟨x1, s1⟩ := p
    rw [h1] at he
    obtain ⟨rfl, hd⟩ := he
    obtain ⟨p1, tp1, hp1⟩ := hd.part
    have L1 : s1.length ≤ s.size + 1000 := by have := strF_len' h1 CN.out; have := HLEN.out; omega
    have hs1 : p1.size ≤ s.size + 1000 := by rw [tp1.size]; omega
    have B1 : Hid (Blk w1 b ((⟨7, epoch, seq, x1, tag, last, askE, askL, ⟨sr, stg⟩, told, rcp⟩ : MsgD).cells u l) 39) := Lib.hid hd.blk
    have T1 := Lib.hid (T0.out.trans hd.turned)
    have H1 := Lib.hid h1; have TP1 := Lib.hid tp1; have HP1 := Lib.hid hp1
    have Qu1 := Lib.hid (Qu0.out.turned hd.turned)
    have Ql1 := Lib.hid (Ql0.out.turned hd.turned)
    clear hd h1 tp1 hp1
    have ck1 := B1.out.cell (i := 0) rfl
    go_wp2_with fail
    refine (ask_any q p1 rd br b 6 askE askL _ 39 _ HP1.out B1.out rfl rfl hbq C4.out (by omega)).mono ?_
    rintro e' w2 he
    rw [show p1.data.toList = s1 from TP1.out] at he
    cases h2 : askF rd askE askL s1 with
    | none =>
      rw [h2] at he
      obtain ⟨rfl, hbad⟩ := he
      have HF := Lib.hid (show partsF rd br (⟨7, epoch, seq, nonce, tag, last, askE, askL, ⟨sr, stg⟩, told, rcp⟩ : MsgD) s.data.toList = none by simp [partsF, nonceF, restF, tagF, taggedB, H1.out, h2])
      have HBAD := Lib.hid (hbad.sofar T1.out)
      clear hbad h2
      go_wp2_with fail
      refine ⟨rfl, ?_⟩
      rw [HF.out]
      exact ⟨rfl, HBAD.out⟩
    | some p =>
      obtain ⟨⟨x2, y2⟩, s2⟩ := p
      rw [h2] at he
      obtain ⟨rfl, hd⟩ := he
      obtain ⟨p2, tp2, hp2⟩ := hd.part
      have L2 : s2.length ≤ s.size + 1006 := by have := askF_len h2; have := L1; omega
      have hs2 : p2.size ≤ s.size + 1006 := by rw [tp2.size]; omega
      have B2 : Hid (Blk w2 b ((⟨7, epoch, seq, x1, tag, last, x2, y2, ⟨sr, stg⟩, told, rcp⟩ : MsgD).cells u l) 39) := Lib.hid hd.blk
      have T2 := Lib.hid (T1.out.trans hd.turned)
      have H2 := Lib.hid h2; have TP2 := Lib.hid tp2; have HP2 := Lib.hid hp2
      have Qu2 := Lib.hid (Qu1.out.turned hd.turned)
      have Ql2 := Lib.hid (Ql1.out.turned hd.turned)
      clear hd h2 tp2 hp2
      have ck2 := B2.out.cell (i := 0) rfl
      go_wp2_with fail
      refine (tagged_walk 7 _).mono ?_
      rintro e' wt ⟨rfl, rfl⟩
      rw [show taggedB 7 = false from rfl]
      go_wp2_with fail
      first | go_end0 | ((try simp only [Exit.inBlock, Exit.then]); refine bodyPost_ret (results_none rfl _ _ _) rfl ?_)
      have HF := Lib.hid (show partsF rd br (⟨7, epoch, seq, nonce, tag, last, askE, askL, ⟨sr, stg⟩, told, rcp⟩ : MsgD) s.data.toList = some ((⟨7, epoch, seq, x1, tag, last, x2, y2, ⟨sr, stg⟩, told, rcp⟩ : MsgD), s2) by simp [partsF, nonceF, restF, tagF, taggedB, H1.out, H2.out])
      rw [HF.out]
      exact ⟨rfl, u, l, ⟨⟨p2, TP2.out, HP2.out⟩, B2.out, T2.out⟩, Qu2.out, Ql2.out⟩
set_option maxRecDepth 100000 in
set_option maxHeartbeats 4000000 in
theorem parts_8 (q : Nat) (s : ByteArray) (rd br : Bool) (b : Nat) (epoch seq : Int) (nonce tag last : ByteArray) (askE askL : Int) (sr : Rec) (stg : ByteArray) (told : ToldD) (rcp : Rcp) (u l : Value) (w : World) (hp : PartAt w q s rd br) (hb : Blk w b ((⟨8, epoch, seq, nonce, tag, last, askE, askL, ⟨sr, stg⟩, told, rcp⟩ : MsgD).cells u l) 39) (hbq : b ≠ q)
    (hu : PathIn [q, b] w u told.up) (hl : PathIn [q, b] w l told.left) (hz : rd = true → (u = .slice none 0 0 ∧ told.up = []) ∧ (l = .slice none 0 0 ∧ told.left = []))
    (hw : rd = false → saysOk (⟨8, epoch, seq, nonce, tag, last, askE, askL, ⟨sr, stg⟩, told, rcp⟩ : MsgD) = true ∧ nonce.size ≤ 1000 ∧ tag.size ≤ 1000 ∧ last.size ≤ 1000 ∧ stg.size ≤ 1000) (hs : s.size ≤ 1000000) :
    Calls Try.prog 35 #[.pointer (some ⟨q, 0, none⟩), .pointer (some ⟨b, 0, none⟩)] w
      (EndsM w q b rd br (partsF rd br (⟨8, epoch, seq, nonce, tag, last, askE, askL, ⟨sr, stg⟩, told, rcp⟩ : MsgD) s.data.toList)) := by
  have CN := Lib.hid (fun h => (hw h).2.1)
  have CT := Lib.hid (fun h => (hw h).2.2.1)
  have CL := Lib.hid (fun h => (hw h).2.2.2.1)
  have CS := Lib.hid (fun h => (hw h).2.2.2.2)
  have HZ := Lib.hid hz
  have C5 := Lib.hid (show rd = false → toldOk told = true from fun h => by
    have := (hw h).1
    simp [saysOk] at this; exact this)
  have HP0 := Lib.hid hp; have B0 := Lib.hid hb; have T0 : Hid (Turned [q, b] w w) := Lib.hid (Turned.refl _ _)
  have Qu0 := Lib.hid hu; have Ql0 := Lib.hid hl
  have HLEN := Lib.hid (show s.data.toList.length ≤ s.size + 0 from Nat.le_refl _)
  have ck := hb.cell (i := 0) rfl

  clear hp hb hu hl hz hw
  go_enter Try.func35, Try.ntmps35
  go_wp2_with fail
  refine (wide_any q s rd br b 3 nonce _ 39 _ HP0.out B0.out rfl hbq (by omega) (fun h => by have := CN.out h; omega)).mono ?_
  rintro e' w1 he
  cases h1 : strF rd nonce s.data.toList with
  | none =>
    rw [h1] at he
    obtain ⟨rfl, hbad⟩ := he
    have HF := Lib.hid (show partsF rd br (⟨8, epoch, seq, nonce, tag, last, askE, askL, ⟨sr, stg⟩, told, rcp⟩ : MsgD) s.data.toList = none by simp [partsF, nonceF, restF, tagF, taggedB, h1])
    have HBAD := Lib.hid (hbad.sofar T0.out)
    clear hbad h1
    go_wp2_with fail
    refine ⟨rfl, ?_⟩
    rw [HF.out]
    exact ⟨rfl, HBAD.out⟩
  | some p =>
    obtain ⟨x1, s1⟩ := p
    rw [h1] at he
    obtain ⟨rfl, hd⟩ := he
    obtain ⟨p1, tp1, hp1⟩ := hd.part
    have L1 : s1.length ≤ s.size + 1000 := by have := strF_len' h1 CN.out; have := HLEN.out; omega
    have hs1 : p1.size ≤ s.size + 1000 := by rw [tp1.size]; omega
    have B1 : Hid (Blk w1 b ((⟨8, epoch, seq, x1, tag, last, askE, askL, ⟨sr, stg⟩, told, rcp⟩ : MsgD).cells u l) 39) := Lib.hid hd.blk
    have T1 := Lib.hid (T0.out.trans hd.turned)
    have H1 := Lib.hid h1; have TP1 := Lib.hid tp1; have HP1 := Lib.hid hp1
    have Qu1 := Lib.hid (Qu0.out.turned hd.turned)
    have Ql1 := Lib.hid (Ql0.out.turned hd.turned)
    clear hd h1 tp1 hp1
    have ck1 := B1.out.cell (i := 0) rfl
    go_wp2_with fail
    refine (told_any q p1 rd br b (⟨8, epoch, seq, x1, tag, last, askE, askL, ⟨sr, stg⟩, told, rcp⟩ : MsgD) u l _ HP1.out B1.out hbq Qu1.out Ql1.out HZ.out C5.out (by omega)).mono ?_
    rintro e' w2 he
    rw [show p1.data.toList = s1 from TP1.out] at he
    cases h2 : toldF rd told s1 with
    | none =>
      simp only [toldM, h2] at he
      obtain ⟨rfl, hbad⟩ := he
      have HF := Lib.hid (show partsF rd br (⟨8, epoch, seq, nonce, tag, last, askE, askL, ⟨sr, stg⟩, told, rcp⟩ : MsgD) s.data.toList = none by simp [partsF, nonceF, restF, tagF, taggedB, H1.out, h2])
      have HBAD := Lib.hid (hbad.sofar T1.out)
      clear hbad h2
      go_wp2_with fail
      refine ⟨rfl, ?_⟩
      rw [HF.out]
      exact ⟨rfl, HBAD.out⟩
    | some p =>
      obtain ⟨x2, s2⟩ := p
      simp only [toldM, h2] at he
      obtain ⟨rfl, u2, l2, hd, hqu, hql⟩ := he
      obtain ⟨p2, tp2, hp2⟩ := hd.part
      have L2 : s2.length ≤ s.size + 23000 := by have := toldF_len h2 C5.out; have := L1; omega
      have hs2 : p2.size ≤ s.size + 23000 := by rw [tp2.size]; omega
      have B2 : Hid (Blk w2 b ((⟨8, epoch, seq, x1, tag, last, askE, askL, ⟨sr, stg⟩, x2, rcp⟩ : MsgD).cells u2 l2) 39) := Lib.hid hd.blk
      have T2 := Lib.hid (T1.out.trans hd.turned)
      have H2 := Lib.hid h2; have TP2 := Lib.hid tp2; have HP2 := Lib.hid hp2
      have Qu2 := Lib.hid hqu
      have Ql2 := Lib.hid hql
      clear hqu hql
      clear hd h2 tp2 hp2
      have ck2 := B2.out.cell (i := 0) rfl
      go_wp2_with fail
      refine (tagged_walk 8 _).mono ?_
      rintro e' wt ⟨rfl, rfl⟩
      rw [show taggedB 8 = false from rfl]
      go_wp2_with fail
      first | go_end0 | ((try simp only [Exit.inBlock, Exit.then]); refine bodyPost_ret (results_none rfl _ _ _) rfl ?_)
      have HF := Lib.hid (show partsF rd br (⟨8, epoch, seq, nonce, tag, last, askE, askL, ⟨sr, stg⟩, told, rcp⟩ : MsgD) s.data.toList = some ((⟨8, epoch, seq, x1, tag, last, askE, askL, ⟨sr, stg⟩, x2, rcp⟩ : MsgD), s2) by simp [partsF, nonceF, restF, tagF, taggedB, H1.out, H2.out])
      rw [HF.out]
      exact ⟨rfl, u2, l2, ⟨⟨p2, TP2.out, HP2.out⟩, B2.out, T2.out⟩, Qu2.out, Ql2.out⟩
set_option maxRecDepth 100000 in
set_option maxHeartbeats 4000000 in
theorem parts_10 (q : Nat) (s : ByteArray) (rd br : Bool) (b : Nat) (epoch seq : Int) (nonce tag last : ByteArray) (askE askL : Int) (sr : Rec) (stg : ByteArray) (told : ToldD) (rcp : Rcp) (u l : Value) (w : World) (hp : PartAt w q s rd br) (hb : Blk w b ((⟨10, epoch, seq, nonce, tag, last, askE, askL, ⟨sr, stg⟩, told, rcp⟩ : MsgD).cells u l) 39) (hbq : b ≠ q)
    (hu : PathIn [q, b] w u told.up) (hl : PathIn [q, b] w l told.left) (hz : rd = true → (u = .slice none 0 0 ∧ told.up = []) ∧ (l = .slice none 0 0 ∧ told.left = []))
    (hw : rd = false → saysOk (⟨10, epoch, seq, nonce, tag, last, askE, askL, ⟨sr, stg⟩, told, rcp⟩ : MsgD) = true ∧ nonce.size ≤ 1000 ∧ tag.size ≤ 1000 ∧ last.size ≤ 1000 ∧ stg.size ≤ 1000) (hs : s.size ≤ 1000000) :
    Calls Try.prog 35 #[.pointer (some ⟨q, 0, none⟩), .pointer (some ⟨b, 0, none⟩)] w
      (EndsM w q b rd br (partsF rd br (⟨10, epoch, seq, nonce, tag, last, askE, askL, ⟨sr, stg⟩, told, rcp⟩ : MsgD) s.data.toList)) := by
  have CN := Lib.hid (fun h => (hw h).2.1)
  have CT := Lib.hid (fun h => (hw h).2.2.1)
  have CL := Lib.hid (fun h => (hw h).2.2.2.1)
  have CS := Lib.hid (fun h => (hw h).2.2.2.2)
  have HZ := Lib.hid hz
  have C6 := Lib.hid (show rd = false → rcpOk rcp = true from fun h => by
    have := (hw h).1
    simp [saysOk] at this; exact this)
  have HP0 := Lib.hid hp; have B0 := Lib.hid hb; have T0 : Hid (Turned [q, b] w w) := Lib.hid (Turned.refl _ _)
  have Qu0 := Lib.hid hu; have Ql0 := Lib.hid hl
  have HLEN := Lib.hid (show s.data.toList.length ≤ s.size + 0 from Nat.le_refl _)
  have ck := hb.cell (i := 0) rfl

  clear hp hb hu hl hz hw
  go_enter Try.func35, Try.ntmps35
  go_wp2_with fail
  refine (receipt_any q s rd br b (⟨10, epoch, seq, nonce, tag, last, askE, askL, ⟨sr, stg⟩, told, rcp⟩ : MsgD) u l _ HP0.out B0.out hbq (by omega) C6.out).mono ?_
  rintro e' w1 he
  cases h1 : rcpF rd rcp s.data.toList with
  | none =>
    rw [h1] at he
    obtain ⟨rfl, hbad⟩ := he
    have HF := Lib.hid (show partsF rd br (⟨10, epoch, seq, nonce, tag, last, askE, askL, ⟨sr, stg⟩, told, rcp⟩ : MsgD) s.data.toList = none by simp [partsF, nonceF, restF, tagF, taggedB, h1])
    have HBAD := Lib.hid (hbad.sofar T0.out)
    clear hbad h1
    go_wp2_with fail
    refine ⟨rfl, ?_⟩
    rw [HF.out]
    exact ⟨rfl, HBAD.out⟩
  | some p =>
    obtain ⟨x1, s1⟩ := p
    rw [h1] at he
    obtain ⟨rfl, hd⟩ := he
    obtain ⟨p1, tp1, hp1⟩ := hd.part
    have L1 : s1.length ≤ s.size + 200 := by have := rcpF_len h1 C6.out; have := HLEN.out; omega
    have hs1 : p1.size ≤ s.size + 200 := by rw [tp1.size]; omega
    have B1 : Hid (Blk w1 b ((⟨10, epoch, seq, nonce, tag, last, askE, askL, ⟨sr, stg⟩, told, x1⟩ : MsgD).cells u l) 39) := Lib.hid hd.blk
    have T1 := Lib.hid (T0.out.trans hd.turned)
    have H1 := Lib.hid h1; have TP1 := Lib.hid tp1; have HP1 := Lib.hid hp1
    have Qu1 := Lib.hid (Qu0.out.turned hd.turned)
    have Ql1 := Lib.hid (Ql0.out.turned hd.turned)
    clear hd h1 tp1 hp1
    have ck1 := B1.out.cell (i := 0) rfl
    go_wp2_with fail
    refine (tagged_walk 10 _).mono ?_
    rintro e' wt ⟨rfl, rfl⟩
    rw [show taggedB 10 = false from rfl]
    go_wp2_with fail
    first | go_end0 | ((try simp only [Exit.inBlock, Exit.then]); refine bodyPost_ret (results_none rfl _ _ _) rfl ?_)
    have HF := Lib.hid (show partsF rd br (⟨10, epoch, seq, nonce, tag, last, askE, askL, ⟨sr, stg⟩, told, rcp⟩ : MsgD) s.data.toList = some ((⟨10, epoch, seq, nonce, tag, last, askE, askL, ⟨sr, stg⟩, told, x1⟩ : MsgD), s1) by simp [partsF, nonceF, restF, tagF, taggedB, H1.out])
    rw [HF.out]
    exact ⟨rfl, u, l, ⟨⟨p1, TP1.out, HP1.out⟩, B1.out, T1.out⟩, Qu1.out, Ql1.out⟩
set_option maxRecDepth 100000 in
set_option maxHeartbeats 4000000 in
theorem parts_o (q : Nat) (s : ByteArray) (rd br : Bool) (b : Nat) (kind : Int) (epoch seq : Int) (nonce tag last : ByteArray) (askE askL : Int) (sr : Rec) (stg : ByteArray) (told : ToldD) (rcp : Rcp) (u l : Value) (w : World) (hk : kind ≠ 10 ∧ kind ≠ 2 ∧ kind ≠ 3 ∧ kind ≠ 4 ∧ kind ≠ 5 ∧ kind ≠ 6 ∧ kind ≠ 7 ∧ kind ≠ 8) (hp : PartAt w q s rd br) (hb : Blk w b ((⟨kind, epoch, seq, nonce, tag, last, askE, askL, ⟨sr, stg⟩, told, rcp⟩ : MsgD).cells u l) 39) (hbq : b ≠ q)
    (hu : PathIn [q, b] w u told.up) (hl : PathIn [q, b] w l told.left) (hz : rd = true → (u = .slice none 0 0 ∧ told.up = []) ∧ (l = .slice none 0 0 ∧ told.left = []))
    (hw : rd = false → saysOk (⟨kind, epoch, seq, nonce, tag, last, askE, askL, ⟨sr, stg⟩, told, rcp⟩ : MsgD) = true ∧ nonce.size ≤ 1000 ∧ tag.size ≤ 1000 ∧ last.size ≤ 1000 ∧ stg.size ≤ 1000) (hs : s.size ≤ 1000000) :
    Calls Try.prog 35 #[.pointer (some ⟨q, 0, none⟩), .pointer (some ⟨b, 0, none⟩)] w
      (EndsM w q b rd br (partsF rd br (⟨kind, epoch, seq, nonce, tag, last, askE, askL, ⟨sr, stg⟩, told, rcp⟩ : MsgD) s.data.toList)) := by
  have CN := Lib.hid (fun h => (hw h).2.1)
  have CT := Lib.hid (fun h => (hw h).2.2.1)
  have CL := Lib.hid (fun h => (hw h).2.2.2.1)
  have CS := Lib.hid (fun h => (hw h).2.2.2.2)
  have HZ := Lib.hid hz
  skip
  have HP0 := Lib.hid hp; have B0 := Lib.hid hb; have T0 : Hid (Turned [q, b] w w) := Lib.hid (Turned.refl _ _)
  have Qu0 := Lib.hid hu; have Ql0 := Lib.hid hl
  have HLEN := Lib.hid (show s.data.toList.length ≤ s.size + 0 from Nat.le_refl _)
  have ck := hb.cell (i := 0) rfl
  have HK := Lib.hid hk
  have HTG := Lib.hid (show taggedB kind = false by unfold taggedB; simp [hk.2.2.1, hk.2.2.2.1])
  obtain ⟨k10, k2, k3, k4, k5, k6, k7, k8⟩ := hk
  clear hp hb hu hl hz hw
  go_enter Try.func35, Try.ntmps35
  go_wp2_with fail
  refine (wide_any q s rd br b 3 nonce _ 39 _ HP0.out B0.out rfl hbq (by omega) (fun h => by have := CN.out h; omega)).mono ?_
  rintro e' w1 he
  cases h1 : strF rd nonce s.data.toList with
  | none =>
    rw [h1] at he
    obtain ⟨rfl, hbad⟩ := he
    have HF := Lib.hid (show partsF rd br (⟨kind, epoch, seq, nonce, tag, last, askE, askL, ⟨sr, stg⟩, told, rcp⟩ : MsgD) s.data.toList = none by simp [partsF, nonceF, restF, tagF, taggedB, HK.out.1, HK.out.2.1, HK.out.2.2.1, HK.out.2.2.2.1, HK.out.2.2.2.2.1, HK.out.2.2.2.2.2.1, HK.out.2.2.2.2.2.2.1, HK.out.2.2.2.2.2.2.2, h1])
    have HBAD := Lib.hid (hbad.sofar T0.out)
    clear hbad h1
    go_wp2_with fail
    refine ⟨rfl, ?_⟩
    rw [HF.out]
    exact ⟨rfl, HBAD.out⟩
  | some p =>
    obtain ⟨x1, s1⟩ := p
    rw [h1] at he
    obtain ⟨rfl, hd⟩ := he
    obtain ⟨p1, tp1, hp1⟩ := hd.part
    have L1 : s1.length ≤ s.size + 1000 := by have := strF_len' h1 CN.out; have := HLEN.out; omega
    have hs1 : p1.size ≤ s.size + 1000 := by rw [tp1.size]; omega
    have B1 : Hid (Blk w1 b ((⟨kind, epoch, seq, x1, tag, last, askE, askL, ⟨sr, stg⟩, told, rcp⟩ : MsgD).cells u l) 39) := Lib.hid hd.blk
    have T1 := Lib.hid (T0.out.trans hd.turned)
    have H1 := Lib.hid h1; have TP1 := Lib.hid tp1; have HP1 := Lib.hid hp1
    have Qu1 := Lib.hid (Qu0.out.turned hd.turned)
    have Ql1 := Lib.hid (Ql0.out.turned hd.turned)
    clear hd h1 tp1 hp1
    have ck1 := B1.out.cell (i := 0) rfl
    go_wp2_with fail
    refine (tagged_walk kind _).mono ?_
    rintro e' wt ⟨rfl, rfl⟩
    rw [show taggedB kind = false from HTG.out]
    go_wp2_with fail
    first | go_end0 | ((try simp only [Exit.inBlock, Exit.then]); refine bodyPost_ret (results_none rfl _ _ _) rfl ?_)
    have HF := Lib.hid (show partsF rd br (⟨kind, epoch, seq, nonce, tag, last, askE, askL, ⟨sr, stg⟩, told, rcp⟩ : MsgD) s.data.toList = some ((⟨kind, epoch, seq, x1, tag, last, askE, askL, ⟨sr, stg⟩, told, rcp⟩ : MsgD), s1) by simp [partsF, nonceF, restF, tagF, taggedB, HK.out.1, HK.out.2.1, HK.out.2.2.1, HK.out.2.2.2.1, HK.out.2.2.2.2.1, HK.out.2.2.2.2.2.1, HK.out.2.2.2.2.2.2.1, HK.out.2.2.2.2.2.2.2, H1.out])
    rw [HF.out]
    exact ⟨rfl, u, l, ⟨⟨p1, TP1.out, HP1.out⟩, B1.out, T1.out⟩, Qu1.out, Ql1.out⟩
theorem parts_any (q : Nat) (s : ByteArray) (rd br : Bool) (b : Nat) (m : MsgD) (u l : Value) (w : World) (hp : PartAt w q s rd br) (hb : Blk w b (m.cells u l) 39) (hbq : b ≠ q)
    (hu : PathIn [q, b] w u m.told.up) (hl : PathIn [q, b] w l m.told.left) (hz : rd = true → (u = .slice none 0 0 ∧ m.told.up = []) ∧ (l = .slice none 0 0 ∧ m.told.left = []))
    (hw : rd = false → saysOk m = true ∧ m.nonce.size ≤ 1000 ∧ m.tag.size ≤ 1000 ∧ m.last.size ≤ 1000 ∧ m.sld.tag.size ≤ 1000) (hs : s.size ≤ 1000000) :
    Calls Try.prog 35 #[.pointer (some ⟨q, 0, none⟩), .pointer (some ⟨b, 0, none⟩)] w
      (EndsM w q b rd br (partsF rd br m s.data.toList)) := by
  obtain ⟨kind, epoch, seq, nonce, tag, last, askE, askL, ⟨sr, stg⟩, told, rcp⟩ := m
  by_cases k2 : kind = 2
  · subst k2
    exact parts_2 q s rd br b epoch seq nonce tag last askE askL sr stg told rcp u l w hp hb hbq hu hl hz hw hs
  by_cases k3 : kind = 3
  · subst k3
    exact parts_3 q s rd br b epoch seq nonce tag last askE askL sr stg told rcp u l w hp hb hbq hu hl hz hw hs
  by_cases k4 : kind = 4
  · subst k4
    exact parts_4 q s rd br b epoch seq nonce tag last askE askL sr stg told rcp u l w hp hb hbq hu hl hz hw hs
  by_cases k5 : kind = 5
  · subst k5
    exact parts_5 q s rd br b epoch seq nonce tag last askE askL sr stg told rcp u l w hp hb hbq hu hl hz hw hs
  by_cases k6 : kind = 6
  · subst k6
    exact parts_6 q s rd br b epoch seq nonce tag last askE askL sr stg told rcp u l w hp hb hbq hu hl hz hw hs
  by_cases k7 : kind = 7
  · subst k7
    exact parts_7 q s rd br b epoch seq nonce tag last askE askL sr stg told rcp u l w hp hb hbq hu hl hz hw hs
  by_cases k8 : kind = 8
  · subst k8
    exact parts_8 q s rd br b epoch seq nonce tag last askE askL sr stg told rcp u l w hp hb hbq hu hl hz hw hs
  by_cases k10 : kind = 10
  · subst k10
    exact parts_10 q s rd br b epoch seq nonce tag last askE askL sr stg told rcp u l w hp hb hbq hu hl hz hw hs
  exact parts_o q s rd br b kind epoch seq nonce tag last askE askL sr stg told rcp u l w ⟨k10, k2, k3, k4, k5, k6, k7, k8⟩ hp hb hbq hu hl hz hw hs
end Go.Proofs.Ytkdplgcffdaoaaa
