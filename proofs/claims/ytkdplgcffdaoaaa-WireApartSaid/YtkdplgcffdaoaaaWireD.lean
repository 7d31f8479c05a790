/- Messages in plain words: which may be, as the document says it; reading leads back; unlike ones are said unlike (chapter 27). No program in sight. -/
import Derived.Test.YtkdplgcffdaoaaaWireP9
namespace Go.Proofs.Ytkdplgcffdaoaaa
set_option linter.unusedSimpArgs false
set_option linter.unusedVariables false
open Go
set_option linter.unusedVariables false
set_option linter.unusedSimpArgs false

/-- What a place has, with what may be said of it alone. -/
def bareT (t : ToldD) : ToldD := if t.gone then ⟨t.askE, t.askL, true, false, 0, LeafD.zero, LeafD.zero, [], [], 0, ⟨#[]⟩⟩ else t
/-- A message with what its kind says alone. -/
def bareD (m : MsgD) : MsgD :=
  ⟨m.kind, if m.kind = 2 ∨ m.kind = 3 ∨ m.kind = 4 then m.epoch else 0, if 4 ≤ m.kind ∧ m.kind ≤ 6 then m.seq else 0, if m.kind ≠ 10 then m.nonce else ⟨#[]⟩,
   if m.kind = 3 ∨ m.kind = 4 then m.tag else ⟨#[]⟩, if m.kind = 4 then m.last else ⟨#[]⟩, if m.kind = 7 then m.askE else 0, if m.kind = 7 then m.askL else 0,
   if m.kind = 6 then m.sld else Sld.zero, if m.kind = 8 then bareT m.told else ToldD.zero, if m.kind = 10 then m.rcp else Rcp.zero⟩
def rtoldOk (t : ToldD) : Bool := askOk t.askE t.askL && epochOk t.slot && decide ((t.cipher.size : Int) ≤ 4000) && (decide (0 ≤ t.at_) && decide (t.at_ ≤ 4096)) && leafOk t.here && leafOk t.ahead && (decide (t.up.length ≤ 12) && decide (t.left.length ≤ 12) && all32 t.up && all32 t.left)
/-- May what a message's kind says be, as the document says? -/
def rsaysOk (m : MsgD) : Bool :=
  if m.kind = 1 then true
  else if m.kind = 2 then epochOk m.epoch
  else if m.kind = 3 then epochOk m.epoch && decide (m.tag.size = 32)
  else if m.kind = 4 then epochOk m.epoch && decide (m.tag.size = 32) && decide (m.last.size = 32) && (decide (0 ≤ m.seq) && decide (m.seq ≤ 4096))
  else if m.kind = 5 then decide (0 ≤ m.seq) && decide (m.seq ≤ 4095)
  else if m.kind = 6 then (decide (0 ≤ m.seq) && decide (m.seq ≤ 4095)) && recOk m.sld.r && decide (m.sld.tag.size = 32)
  else if m.kind = 7 then askOk m.askE m.askL
  else if m.kind = 8 then rtoldOk m.told
  else if m.kind = 10 then rcpOk m.rcp
  else false
/-- May a message be, as the document says? -/
def rightM (m : MsgD) : Bool := decide (m = bareD m) && (decide (m.kind = 10) || decide (m.nonce.size = 32)) && rsaysOk m

theorem told_ok (t : ToldD) : toldOk t = true ↔ (t = bareT t ∧ rtoldOk t = true) := by
  obtain ⟨e, l, g, f, a, h, ah, u, le, s, c⟩ := t
  cases g with
  | false => simp [toldOk, bareT, rtoldOk]
  | true =>
    simp only [toldOk, bareT, rtoldOk, toldBare, if_true, Bool.and_eq_true, Bool.not_eq_true', decide_eq_true_eq, ToldD.mk.injEq]
    constructor
    · rintro ⟨h1, ⟨⟨⟨⟨⟨⟨h2, h3⟩, h4⟩, h5⟩, h6⟩, h7⟩, h8⟩⟩
      have hu : u = [] := List.length_eq_zero_iff.1 (by omega)
      have hl : le = [] := List.length_eq_zero_iff.1 (by omega)
      subst h2 h3 h4 h5 h6 h7 hu hl
      refine ⟨by simp, ?_⟩
      refine ⟨⟨⟨⟨⟨⟨h1, by decide⟩, by decide⟩, by decide⟩, by decide⟩, by decide⟩, by decide⟩
    · rintro ⟨⟨_, _, _, h4, h5, h6, h7, h8, h9, h2, h3⟩, h⟩
      subst h2 h3 h4 h5 h6 h7 h8 h9
      exact ⟨h.1.1.1.1.1.1, by decide⟩
set_option maxHeartbeats 1600000 in
theorem rightM_iff (m : MsgD) : rightM m = true ↔ msgOk m = true := by
  obtain ⟨kind, epoch, seq, nonce, tag, last, askE, askL, sld, told, rcp⟩ := m
  have ht := told_ok told
  by_cases k1 : kind = 1
  · subst k1; simp [rightM, msgOk, bareD, rsaysOk, saysOk, wipe, bareM, taggedB]; grind
  by_cases k2 : kind = 2
  · subst k2; simp [rightM, msgOk, bareD, rsaysOk, saysOk, wipe, bareM, taggedB]; grind
  by_cases k3 : kind = 3
  · subst k3; simp [rightM, msgOk, bareD, rsaysOk, saysOk, wipe, bareM, taggedB]; grind
  by_cases k4 : kind = 4
  · subst k4; simp [rightM, msgOk, bareD, rsaysOk, saysOk, wipe, bareM, taggedB]; grind
  by_cases k5 : kind = 5
  · subst k5; simp [rightM, msgOk, bareD, rsaysOk, saysOk, wipe, bareM, taggedB]; grind
  by_cases k6 : kind = 6
  · subst k6; simp [rightM, msgOk, bareD, rsaysOk, saysOk, wipe, bareM, taggedB]; grind
  by_cases k7 : kind = 7
  · subst k7; simp [rightM, msgOk, bareD, rsaysOk, saysOk, wipe, bareM, taggedB]; grind
  by_cases k8 : kind = 8
  · subst k8; simp [rightM, msgOk, bareD, rsaysOk, saysOk, wipe, bareM, taggedB, ht]; grind
  by_cases k10 : kind = 10
  · subst k10; simp [rightM, msgOk, bareD, rsaysOk, saysOk, wipe, bareM, taggedB]; grind
  simp [rightM, msgOk, rsaysOk, saysOk, k1, k2, k3, k4, k5, k6, k7, k8, k10]
theorem rightM_eq (m : MsgD) : rightM m = msgOk m := by
  rw [Bool.eq_iff_iff]; exact rightM_iff m
theorem msgOk_bare {m : MsgD} (h : msgOk m = true) : m = bareD m := by
  rw [← rightM_iff] at h
  simp only [rightM, Bool.and_eq_true, decide_eq_true_eq] at h
  exact h.1.1

/-! Reading leads back. -/
theorem numF_r {k : Nat} {n x : Int} (h0 : 0 ≤ n) (h : n.toNat < 256 ^ k) (s : List UInt8) : numF true k x (beBytes k n.toNat ++ s) = some (n, s) := by
  have e1 : (beBytes k n.toNat ++ s).take k = beBytes k n.toNat := by rw [List.take_append_of_le_length (by rw [beBytes_length]; omega), List.take_of_length_le (by rw [beBytes_length]; omega)]
  have e2 : (beBytes k n.toNat ++ s).drop k = s := by
    rw [List.drop_append_of_le_length (by rw [beBytes_length]; omega), List.drop_of_length_le (by rw [beBytes_length]; omega), List.nil_append]
  unfold numF
  rw [if_pos rfl, if_neg (by rw [List.length_append, beBytes_length]; omega), e1, e2, beNum_beBytes k _ h]
  congr 2
  omega
theorem bytes_mk (x : ByteArray) : (⟨x.data.toList.toArray⟩ : ByteArray) = x := by cases x; rfl
theorem strF_r {x y : ByteArray} (h : x.size = 32) (s : List UInt8) : strF true y (x.data.toList ++ s) = some (x, s) := by
  have hl : x.data.toList.length = 32 := h
  unfold strF
  rw [if_pos rfl, if_neg (by rw [List.length_append]; omega), List.take_append_of_le_length (by omega), List.take_of_length_le (by omega), List.drop_append_of_le_length (by omega), List.drop_of_length_le (by omega), List.nil_append, bytes_mk]
theorem flagF_r (b c : Bool) (s : List UInt8) : flagF true c (flagL b ++ s) = some (b, s) := by
  unfold flagF flagL
  cases b
  · have := numF_r (k := 1) (n := 0) (x := if c then 1 else 0) (by omega) (by decide) s
    simp only [Bool.false_eq_true, if_false] at this ⊢
    rw [show (0 : Int).toNat = 0 from rfl] at this
    rw [this]; rfl
  · have := numF_r (k := 1) (n := 1) (x := if c then 1 else 0) (by omega) (by decide) s
    simp only [if_true] at this ⊢
    rw [show (1 : Int).toNat = 1 from rfl] at this
    rw [this]; rfl
theorem askOk_facts {e l : Int} (h : askOk e l = true) : 0 ≤ e ∧ e ≤ 4294967295 ∧ 0 ≤ l ∧ l ≤ 4095 := by
  simp only [askOk, epochOk, Bool.and_eq_true, decide_eq_true_eq] at h; omega
theorem askF_r {e l x y : Int} (h : askOk e l = true) (s : List UInt8) : askF true x y (askBL e l ++ s) = some ((e, l), s) := by
  have hf := askOk_facts h
  unfold askF askBL
  rw [List.append_assoc, numF_r (by omega) (by omega)]
  simp only
  rw [numF_r (by omega) (by omega)]
theorem leafF_r {x : LeafD} (h : leafOk x = true) (s : List UInt8) : leafF true LeafD.zero (leafL x ++ s) = some (x, s) := by
  unfold leafF leafL
  by_cases hz : x = LeafD.zero
  · rw [if_pos hz, flagF_r, hz]
  · rw [if_neg hz, List.append_assoc, List.append_assoc, flagF_r]
    simp only [leafOk, hz, leafSaid, decide_false, Bool.false_or, Bool.and_eq_true, decide_eq_true_eq] at h
    simp only
    rw [numF_r (by omega) (by omega)]
    simp only
    rw [strF_r (by omega)]
theorem all32_mem {xs : List ByteArray} (h : all32 xs = true) : ∀ x ∈ xs, x.size = 32 := by
  intro x hx
  have := List.all_eq_true.1 h x hx
  simpa using this
theorem strsF_r {xs ys : List ByteArray} (h : all32 xs = true) (s : List UInt8) : ∀ k, k ≤ xs.length → strsF true ys ((xs.map (·.data.toList)).flatten ++ s) k = some (xs.take k, ((xs.drop k).map (·.data.toList)).flatten ++ s) := by
  intro k
  induction k with
  | zero => intro _; simp [strsF]
  | succ k ih =>
    intro hk
    have e : xs.drop k = xs[k]'(by omega) :: xs.drop (k + 1) := List.drop_eq_getElem_cons (by omega)
    simp only [strsF, ih (by omega)]
    rw [e]
    simp only [List.map_cons, List.flatten_cons, List.append_assoc]
    rw [strF_r (all32_mem h _ (List.getElem_mem _))]
    simp only
    rw [List.take_succ_eq_append_getElem (by omega)]
theorem pathF_r {xs : List ByteArray} (h : all32 xs = true) (hl : xs.length ≤ 12) (s : List UInt8) : pathF true [] (pathL xs ++ s) = some (xs, s) := by
  unfold pathF pathL
  have := numF_r (k := 1) (n := (xs.length : Int)) (x := 0) (by omega) (by omega) ((xs.map (·.data.toList)).flatten ++ s)
  rw [show ((xs.length : Int)).toNat = xs.length by omega] at this
  rw [List.append_assoc, show (([] : List ByteArray).length : Int) = 0 from rfl, this]
  simp only [if_true]
  rw [show ((xs.length : Int)).toNat = xs.length by omega, strsF_r h s _ (Nat.le_refl _)]
  simp
theorem textF_r {x y : ByteArray} (h : x.size < 4294967296) (s : List UInt8) : textF true y (textL x.data.toList ++ s) = some (x, s) := by
  unfold textF
  rw [if_pos rfl, cutS_text (show x.data.toList.length < _ from h)]
theorem epochOk_facts {e : Int} (h : epochOk e = true) : 0 ≤ e ∧ e ≤ 4294967295 := by
  simp only [epochOk, Bool.and_eq_true, decide_eq_true_eq] at h; omega
theorem toldF_r {t : ToldD} (h : toldOk t = true) (s : List UInt8) : toldF true ToldD.zero (toldL t ++ s) = some (t, s) := by
  obtain ⟨hb, hr⟩ := (told_ok t).1 h
  obtain ⟨e, l, g, f, a, h1, ah, u, le, sl, ci⟩ := t
  simp only [rtoldOk, Bool.and_eq_true, decide_eq_true_eq] at hr
  obtain ⟨⟨⟨⟨⟨⟨g1, g2⟩, g3⟩, g4⟩, g5⟩, g6⟩, ⟨⟨g7, g8⟩, g9⟩, g10⟩ := hr
  have g2 := epochOk_facts g2
  unfold toldF toldL
  simp only [List.append_assoc]
  rw [askF_r g1]
  simp only
  rw [flagF_r]
  cases g with
  | true =>
    simp only [bareT, if_true, ToldD.mk.injEq] at hb
    obtain ⟨_, _, _, b4, b5, b6, b7, b8, b9, b2, b3⟩ := hb
    subst b2 b3 b4 b5 b6 b7 b8 b9
    rfl
  | false =>
    simp only [Bool.false_eq_true, if_false, List.append_assoc]
    unfold toldF2
    rw [numF_r (by omega) (by omega)]
    simp only
    rw [textF_r (by omega)]
    simp only
    rw [flagF_r]
    simp only
    rw [numF_r (by omega) (by omega)]
    simp only [ToldD.zero]
    rw [leafF_r g5]
    simp only
    rw [leafF_r g6]
    simp only
    rw [pathF_r g9 g7]
    simp only
    rw [pathF_r g10 g8]
/-- The message that bytes are read as. -/
def readF (s : List UInt8) : Option (MsgD × List UInt8) :=
  match numF true 1 0 s with
  | none => none
  | some (k, s1) => partsF true false { MsgD.zero with kind := k } s1
set_option maxHeartbeats 1600000 in
theorem restF_r {m : MsgD} (h : msgOk m = true) (s : List UInt8) : restF true { MsgD.zero with kind := m.kind, nonce := m.nonce } (restL m ++ s) = some ({ m with tag := ⟨#[]⟩ }, s) := by
  have hb := msgOk_bare h
  have hs := (msgOk_facts h).says
  clear h
  obtain ⟨kind, epoch, seq, nonce, tag, last, askE, askL, ⟨sr, stg⟩, told, rcp⟩ := m
  simp only [bareD, MsgD.mk.injEq] at hb
  obtain ⟨_, b1, b2, b3, b4, b5, b6, b7, b8, b9, b10⟩ := hb
  by_cases k1 : kind = 1
  · subst k1
    simp at b1 b2 b3 b4 b5 b6 b7 b8 b9 b10
    simp [restF, restL, MsgD.zero]
    simp_all
  by_cases k2 : kind = 2
  · subst k2
    simp [saysOk] at hs
    have hs := epochOk_facts hs
    simp [restF, restL, MsgD.zero, numF_r (k := 4) (n := epoch) hs.1 (by omega)]
    simp_all
  by_cases k3 : kind = 3
  · subst k3
    simp [saysOk] at hs
    have hs := epochOk_facts hs
    simp [restF, restL, MsgD.zero, numF_r (k := 4) (n := epoch) hs.1 (by omega)]
    simp_all
  by_cases k4 : kind = 4
  · subst k4
    simp [saysOk] at hs
    obtain ⟨⟨g1, g2, g3⟩, g4⟩ := hs
    have g1 := epochOk_facts g1
    simp [restF, restL, MsgD.zero, numF_r (k := 4) (n := epoch) g1.1 (by omega), numF_r (k := 4) (n := seq) g2 (by omega), strF_r g4]
    simp_all
  by_cases k5 : kind = 5
  · subst k5
    simp [saysOk] at hs
    simp [restF, restL, MsgD.zero, numF_r (k := 4) (n := seq) hs.1 (by omega)]
    simp_all
  by_cases k6 : kind = 6
  · subst k6
    simp [saysOk] at hs
    obtain ⟨⟨⟨g1, g2⟩, g3⟩, g4⟩ := hs
    simp [restF, restL, MsgD.zero, numF_r (k := 4) (n := seq) g1 (by omega), recF, recTake_put g3, strF_r g4]
    simp_all
  by_cases k7 : kind = 7
  · subst k7
    simp [saysOk] at hs
    simp [restF, restL, MsgD.zero, askF_r hs]
    simp_all
  by_cases k8 : kind = 8
  · subst k8
    simp [saysOk] at hs
    clear b9
    simp [restF, restL, MsgD.zero, toldF_r hs]
    simp_all
  by_cases k10 : kind = 10
  · subst k10
    simp [saysOk] at hs
    simp at b1 b2 b3 b4 b5 b6 b7 b8 b9 b10
    unfold restF restL
    simp only [if_true, if_false, show ¬ ((10 : Int) = 2 ∨ (10 : Int) = 3) by omega, show ¬ (10 : Int) = 4 by omega, show ¬ (10 : Int) = 5 by omega, show ¬ (10 : Int) = 6 by omega, show ¬ (10 : Int) = 7 by omega, show ¬ (10 : Int) = 8 by omega, rcpF, rcpTake_put hs]
    simp only [MsgD.zero, b1, b2, b3, b4, b5, b6, b7, b8, b9]
  exfalso
  simp [saysOk, k1, k2, k3, k4, k5, k6, k7, k8, k10] at hs
theorem msgOk_sizes {m : MsgD} (h : msgOk m = true) : (m.kind = 10 ∨ m.nonce.size = 32) ∧ (taggedB m.kind = true → m.tag.size = 32) := by
  simp only [msgOk, Bool.and_eq_true, Bool.or_eq_true, decide_eq_true_eq, Bool.not_eq_true'] at h
  refine ⟨h.1.2.1, fun ht => ?_⟩
  rcases h.1.2.2 with h2 | h2
  · rw [ht] at h2; cases h2
  · exact h2
theorem readF_put {m : MsgD} (h : msgOk m = true) : readF (msgPut m) = some (m, []) := by
  have hk := saysOk_kind (msgOk_facts h).says
  have hz := msgOk_sizes h
  have hr := restF_r h
  have e : msgPut m = beBytes 1 m.kind.toNat ++ (m.nonce.data.toList ++ (restL m ++ (m.tag.data.toList ++ []))) := by
    unfold msgPut msgSaid; simp [List.append_assoc]
  unfold readF
  rw [e, numF_r (by omega) (by omega)]
  simp only
  unfold partsF
  have e1 : nonceF true { MsgD.zero with kind := m.kind } (m.nonce.data.toList ++ (restL m ++ (m.tag.data.toList ++ []))) = some ({ MsgD.zero with kind := m.kind, nonce := m.nonce }, restL m ++ (m.tag.data.toList ++ [])) := by
    unfold nonceF
    split
    · next h10 =>
      have := (msgOk_facts h).nonce10 h10
      rw [this]; rfl
    · next h10 =>
      rw [strF_r (hz.1.resolve_left h10)]
  rw [e1]
  simp only
  rw [hr]
  simp only
  unfold tagF
  cases ht : taggedB m.kind with
  | true =>
    simp only [ht, Bool.not_false, Bool.and_self, if_true]
    rw [strF_r (hz.2 ht)]
  | false =>
    have h0 := (msgOk_facts h).tag0 ht
    simp only [ht, Bool.false_and, Bool.false_eq_true, if_false]
    rw [h0]
    congr 2
    rw [← h0]

/-! Unlike ones are said unlike. -/
theorem tagged_bare {m : MsgD} (h : msgOk m = true) (ht : taggedB m.kind = true) :
    (m.kind = 3 ∧ m = ⟨3, m.epoch, 0, m.nonce, m.tag, ⟨#[]⟩, 0, 0, Sld.zero, ToldD.zero, Rcp.zero⟩ ∨ m.kind = 4 ∧ m = ⟨4, m.epoch, m.seq, m.nonce, m.tag, m.last, 0, 0, Sld.zero, ToldD.zero, Rcp.zero⟩ ∧ m.last.size = 32 ∧ 0 ≤ m.seq ∧ m.seq ≤ 4096) ∧ m.nonce.size = 32 ∧ 0 ≤ m.epoch ∧ m.epoch ≤ 4294967295 := by
  have hb := msgOk_bare h
  have hz := (msgOk_sizes h).1
  have hs := (msgOk_facts h).says
  simp only [taggedB, Bool.or_eq_true, decide_eq_true_eq] at ht
  clear h
  obtain ⟨kind, epoch, seq, nonce, tag, last, askE, askL, sld, told, rcp⟩ := m
  simp only [bareD, MsgD.mk.injEq] at hb
  obtain ⟨_, b1, b2, b3, b4, b5, b6, b7, b8, b9, b10⟩ := hb
  simp only at ht hz hs ⊢
  rcases ht with rfl | rfl
  · simp [saysOk] at hs
    have hs := epochOk_facts hs
    simp at b1 b2 b3 b4 b5 b6 b7 b8 b9 b10 hz
    subst b2 b5 b6 b7 b8 b9 b10
    exact ⟨.inl ⟨rfl, rfl⟩, hz, hs⟩
  · simp [saysOk] at hs
    obtain ⟨⟨g1, g2, g3⟩, g4⟩ := hs
    have g1 := epochOk_facts g1
    simp at b1 b2 b3 b4 b5 b6 b7 b8 b9 b10 hz
    subst b6 b7 b8 b9 b10
    exact ⟨.inr ⟨rfl, rfl, g4, g2, g3⟩, hz, g1⟩
/-- A message without its tag. -/
def tagless (m : MsgD) (z : ByteArray) : MsgD := { m with tag := z }
theorem app_inj32 {a b : ByteArray} {s t : List UInt8} (ha : a.size = 32) (hb : b.size = 32) (h : a.data.toList ++ s = b.data.toList ++ t) : a = b ∧ s = t := by
  have := List.append_inj h (show a.data.toList.length = b.data.toList.length from ha.trans hb.symm)
  exact ⟨(Txt.self a).eq (this.1 ▸ Txt.self b), this.2⟩
theorem said_kind {m : MsgD} (h : msgOk m = true) (ht : taggedB m.kind = true) : (msgSaid m).take 1 = [UInt8.ofNat m.kind.toNat] := by
  rcases (tagged_bare h ht).1 with ⟨hk, _⟩ | ⟨hk, _⟩ <;> (unfold msgSaid; rw [hk]; rfl)
theorem said_len {m : MsgD} (h : msgOk m = true) (ht : taggedB m.kind = true) : (msgSaid m).length = if m.kind = 3 then 37 else 73 := by
  obtain ⟨h1, h2, h3, h4⟩ := tagged_bare h ht
  have e1 : m.nonce.data.toList.length = 32 := h2
  rcases h1 with ⟨hk, _⟩ | ⟨hk, _, hl, _⟩
  · unfold msgSaid restL
    simp [hk, e1, beBytes_length]
  · have e2 : m.last.data.toList.length = 32 := hl
    unfold msgSaid restL
    simp [hk, e1, e2, beBytes_length]
theorem said_inj {m n : MsgD} (hm : msgOk m = true) (hn : msgOk n = true) (tm : taggedB m.kind = true) (tn : taggedB n.kind = true) (z : ByteArray) : msgSaid m = msgSaid n ↔ tagless m z = tagless n z := by
  constructor
  · intro h
    have hk : m.kind = n.kind := by
      have h1 := congrArg (List.take 1) h
      rw [said_kind hm tm, said_kind hn tn] at h1
      rcases (tagged_bare hm tm).1 with ⟨k1, _⟩ | ⟨k1, _⟩ <;> rcases (tagged_bare hn tn).1 with ⟨k2, _⟩ | ⟨k2, _⟩ <;> rw [k1, k2] at h1 ⊢ <;> first | rfl | (exact absurd h1 (by decide))
    obtain ⟨a1, a2, a3, a4⟩ := tagged_bare hm tm
    obtain ⟨c1, c2, c3, c4⟩ := tagged_bare hn tn
    unfold msgSaid restL at h
    rw [← hk] at h
    rcases a1 with ⟨k1, e1⟩ | ⟨k1, e1, l1, q1, q2⟩
    · rw [k1] at hk
      rcases c1 with ⟨k2, e2⟩ | ⟨k2, e2, l2, _⟩
      · rw [k1] at h
        simp only [List.append_assoc, List.append_cancel_left_eq] at h
        obtain ⟨g1, g2⟩ := app_inj32 a2 c2 h
        simp at g2
        have g3 := beBytes_inj 4 (by omega) (by omega) g2
        have g4 : m.epoch = n.epoch := by omega
        rw [e1, e2]
        simp only [tagless, MsgD.mk.injEq]
        simp [g1, g4]
      · omega
    · rw [k1] at hk
      rcases c1 with ⟨k2, e2⟩ | ⟨k2, e2, l2, r1, r2⟩
      · omega
      · rw [k1] at h
        simp only [List.append_assoc, List.append_cancel_left_eq] at h
        obtain ⟨g1, g2⟩ := app_inj32 a2 c2 h
        simp only [show ¬ ((4 : Int) = 2 ∨ (4 : Int) = 3) by omega, if_false, if_true] at g2
        have g3 := List.append_inj g2 (by rw [beBytes_length, beBytes_length])
        have g4 := List.append_inj g3.2 (by rw [beBytes_length, beBytes_length])
        have g5 := beBytes_inj 4 (by omega) (by omega) g3.1
        have g6 := beBytes_inj 4 (by omega) (by omega) g4.1
        have g7 : m.last = n.last := (Txt.self m.last).eq (g4.2 ▸ Txt.self n.last)
        have g8 : m.epoch = n.epoch := by omega
        have g9 : m.seq = n.seq := by omega
        rw [e1, e2]
        simp only [tagless, MsgD.mk.injEq]
        simp [g1, g7, g8, g9]
  · intro h
    have : msgSaid m = msgSaid (tagless m z) := rfl
    rw [this, h]
    rfl
/-- None is said as the beginning of another one. -/
theorem said_apart {m n : MsgD} (hm : msgOk m = true) (hn : msgOk n = true) (tm : taggedB m.kind = true) (tn : taggedB n.kind = true) (z : ByteArray) (k : Nat) (hk : k = min (msgSaid m).length (msgSaid n).length) :
    (msgSaid m).take k = (msgSaid n).take k ↔ tagless m z = tagless n z := by
  have lm := said_len hm tm
  have ln := said_len hn tn
  by_cases hkk : m.kind = n.kind
  · rw [hkk] at lm
    have h1 : k = (msgSaid m).length := by omega
    have h2 : k = (msgSaid n).length := by omega
    rw [← said_inj hm hn tm tn z]
    conv => lhs; lhs; rw [h1, List.take_length]
    conv => lhs; rhs; rw [h2, List.take_length]
  · constructor
    · intro h
      exfalso
      have hk1 : 1 ≤ k := by split at lm <;> split at ln <;> omega
      have h1 := congrArg (List.take 1) h
      rw [List.take_take, List.take_take, Nat.min_eq_left hk1, said_kind hm tm, said_kind hn tn] at h1
      rcases (tagged_bare hm tm).1 with ⟨k1, _⟩ | ⟨k1, _⟩ <;> rcases (tagged_bare hn tn).1 with ⟨k2, _⟩ | ⟨k2, _⟩ <;> rw [k1, k2] at h1 <;> first | omega | (exact absurd h1 (by decide))
    · intro h
      exact absurd (congrArg MsgD.kind h) hkk
end Go.Proofs.Ytkdplgcffdaoaaa
