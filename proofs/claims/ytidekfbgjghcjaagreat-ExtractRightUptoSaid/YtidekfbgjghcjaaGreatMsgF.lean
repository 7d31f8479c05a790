/- What the parts of a message write, and read: one word for both ways. No program in sight. -/
import Derived.Test.YtidekfbgjghcjaaGreatMsg
namespace Go.Proofs.YtidekfbgjghcjaaGreat
set_option linter.unusedSimpArgs false
set_option linter.unusedVariables false
open Go

def numF (rd : Bool) (k : Nat) (n : Int) (s : List UInt8) : Option (Int × List UInt8) :=
  if rd then (if s.length < k then none else some (((beNum (s.take k) : Nat) : Int), s.drop k)) else some (n, s ++ beBytes k n.toNat)
def strF (rd : Bool) (x : ByteArray) (s : List UInt8) : Option (ByteArray × List UInt8) :=
  if rd then (if s.length < 32 then none else some (⟨(s.take 32).toArray⟩, s.drop 32)) else some (x, s ++ x.data.toList)
def flagF (rd : Bool) (b : Bool) (s : List UInt8) : Option (Bool × List UInt8) :=
  match numF rd 1 (if b then 1 else 0) s with
  | none => none
  | some (n, s1) => some (decide (n = 1), s1)
def askF (rd : Bool) (e l : Int) (s : List UInt8) : Option ((Int × Int) × List UInt8) :=
  match numF rd 4 e s with
  | none => none
  | some (e', s1) => match numF rd 2 l s1 with
    | none => none
    | some (l', s2) => some ((e', l'), s2)
def leafF (rd : Bool) (x : LeafD) (s : List UInt8) : Option (LeafD × List UInt8) :=
  match flagF rd (decide (x ≠ LeafD.zero)) s with
  | none => none
  | some (false, s1) => some (x, s1)
  | some (true, s1) => match numF rd 2 x.lba s1 with
    | none => none
    | some (l', s2) => match strF rd x.hash s2 with
      | none => none
      | some (h', s3) => some (⟨l', h'⟩, s3)
def strsF (rd : Bool) (xs : List ByteArray) (s : List UInt8) : Nat → Option (List ByteArray × List UInt8)
  | 0 => some ([], s)
  | k + 1 => match strsF rd xs s k with
    | none => none
    | some (d, s1) => match strF rd (xs.getD k ⟨#[]⟩) s1 with
      | none => none
      | some (x, s2) => some (d ++ [x], s2)
def pathF (rd : Bool) (xs : List ByteArray) (s : List UInt8) : Option (List ByteArray × List UInt8) :=
  match numF rd 1 (xs.length : Int) s with
  | none => none
  | some (n, s1) => strsF rd (if rd then List.replicate n.toNat ⟨#[]⟩ else xs) s1 (if rd then n.toNat else xs.length)
def textF (rd : Bool) (x : ByteArray) (s : List UInt8) : Option (ByteArray × List UInt8) :=
  if rd then (match cutS s with | none => none | some (t, s1) => some (⟨t.toArray⟩, s1)) else some (x, s ++ textL x.data.toList)
def recF (rd : Bool) (r : Rec) (s : List UInt8) : Option (Rec × List UInt8) := if rd then recTake s else some (r, s ++ recPut r)
def rcpF (rd : Bool) (x : Rcp) (s : List UInt8) : Option (Rcp × List UInt8) := if rd then rcpTake s else some (x, s ++ rcpPut x)
def toldF2 (rd : Bool) (t : ToldD) (s : List UInt8) : Option (ToldD × List UInt8) :=
  match numF rd 4 t.slot s with
  | none => none
  | some (a, s1) => match textF rd t.cipher s1 with
    | none => none
    | some (b, s2) => match flagF rd t.found s2 with
      | none => none
      | some (c, s3) => match numF rd 4 t.at_ s3 with
        | none => none
        | some (d, s4) => match leafF rd t.here s4 with
          | none => none
          | some (e, s5) => match leafF rd t.ahead s5 with
            | none => none
            | some (f, s6) => match pathF rd t.up s6 with
              | none => none
              | some (g, s7) => match pathF rd t.left s7 with
                | none => none
                | some (h, s8) => some ({ t with slot := a, cipher := b, found := c, at_ := d, here := e, ahead := f, up := g, left := h }, s8)
def toldF (rd : Bool) (t : ToldD) (s : List UInt8) : Option (ToldD × List UInt8) :=
  match askF rd t.askE t.askL s with
  | none => none
  | some ((e, l), s1) => match flagF rd t.gone s1 with
    | none => none
    | some (true, s2) => some ({ t with askE := e, askL := l, gone := true }, s2)
    | some (false, s2) => toldF2 rd { t with askE := e, askL := l, gone := false } s2
def restF (rd : Bool) (m : MsgD) (s : List UInt8) : Option (MsgD × List UInt8) :=
  if m.kind = 2 ∨ m.kind = 3 then (match numF rd 4 m.epoch s with | none => none | some (e, s1) => some ({ m with epoch := e }, s1))
  else if m.kind = 4 then
    match numF rd 4 m.epoch s with
    | none => none
    | some (e, s1) => match numF rd 4 m.seq s1 with
      | none => none
      | some (q, s2) => match strF rd m.last s2 with
        | none => none
        | some (l, s3) => some ({ m with epoch := e, seq := q, last := l }, s3)
  else if m.kind = 5 then (match numF rd 4 m.seq s with | none => none | some (q, s1) => some ({ m with seq := q }, s1))
  else if m.kind = 6 then
    match numF rd 4 m.seq s with
    | none => none
    | some (q, s1) => match recF rd m.sld.r s1 with
      | none => none
      | some (r, s2) => match strF rd m.sld.tag s2 with
        | none => none
        | some (t, s3) => some ({ m with seq := q, sld := ⟨r, t⟩ }, s3)
  else if m.kind = 7 then (match askF rd m.askE m.askL s with | none => none | some ((e, l), s1) => some ({ m with askE := e, askL := l }, s1))
  else if m.kind = 8 then (match toldF rd m.told s with | none => none | some (t, s1) => some ({ m with told := t }, s1))
  else if m.kind = 10 then (match rcpF rd m.rcp s with | none => none | some (x, s1) => some ({ m with rcp := x }, s1))
  else some (m, s)
def nonceF (rd : Bool) (m : MsgD) (s : List UInt8) : Option (MsgD × List UInt8) :=
  if m.kind = 10 then some (m, s) else (match strF rd m.nonce s with | none => none | some (x, s1) => some ({ m with nonce := x }, s1))
def tagF (rd br : Bool) (m : MsgD) (s : List UInt8) : Option (MsgD × List UInt8) :=
  if (taggedB m.kind && !br) = true then (match strF rd m.tag s with | none => none | some (x, s1) => some ({ m with tag := x }, s1)) else some (m, s)
def partsF (rd br : Bool) (m : MsgD) (s : List UInt8) : Option (MsgD × List UInt8) :=
  match nonceF rd m s with
  | none => none
  | some (m1, s1) => match restF rd m1 s1 with
    | none => none
    | some (m2, s2) => tagF rd br m2 s2

/-! How long it becomes. -/
theorem numF_len {rd : Bool} {k : Nat} {n n' : Int} {s s' : List UInt8} (h : numF rd k n s = some (n', s')) : s'.length ≤ s.length + k := by
  unfold numF at h
  split at h
  · split at h
    · cases h
    · injection h with h; injection h with _ h; rw [← h, List.length_drop]; omega
  · injection h with h; injection h with _ h; rw [← h, List.length_append, beBytes_length]; omega
theorem strF_len {rd : Bool} {x x' : ByteArray} {s s' : List UInt8} (h : strF rd x s = some (x', s')) : s'.length ≤ s.length + (if rd then 0 else x.size) := by
  unfold strF at h
  split at h
  · split at h
    · cases h
    · injection h with h; injection h with _ h; rw [← h, List.length_drop]; omega
  · next hr => injection h with h; injection h with _ h; rw [← h, List.length_append, if_neg hr]; exact Nat.le_refl _
theorem flagF_len {rd b b' : Bool} {s s' : List UInt8} (h : flagF rd b s = some (b', s')) : s'.length ≤ s.length + 1 := by
  unfold flagF at h
  cases hn : numF rd 1 (if b then 1 else 0) s with
  | none => rw [hn] at h; cases h
  | some p =>
    rw [hn] at h
    have := numF_len hn
    injection h with h; injection h with _ h; rw [← h]; exact this
theorem askF_len {rd : Bool} {e l : Int} {p : Int × Int} {s s' : List UInt8} (h : askF rd e l s = some (p, s')) : s'.length ≤ s.length + 6 := by
  unfold askF at h
  cases h1 : numF rd 4 e s with
  | none => rw [h1] at h; cases h
  | some p =>
    obtain ⟨a, s1⟩ := p
    rw [h1] at h
    simp only at h
    cases h2 : numF rd 2 l s1 with
    | none => rw [h2] at h; cases h
    | some p =>
      obtain ⟨b, s2⟩ := p
      rw [h2] at h
      have := numF_len h1
      have := numF_len h2
      simp only [Option.some.injEq, Prod.mk.injEq] at h
      rw [← h.2]; omega
theorem leafF_len {rd : Bool} {x x' : LeafD} {s s' : List UInt8} (h : leafF rd x s = some (x', s')) (hx : rd = false → x.hash.size ≤ 32) : s'.length ≤ s.length + 35 := by
  unfold leafF at h
  cases h1 : flagF rd (decide (x ≠ LeafD.zero)) s with
  | none => rw [h1] at h; cases h
  | some p =>
    obtain ⟨a, s1⟩ := p
    rw [h1] at h
    have l1 := flagF_len h1
    cases a with
    | false => simp only [Option.some.injEq, Prod.mk.injEq] at h; rw [← h.2]; omega
    | true =>
      simp only at h
      cases h2 : numF rd 2 x.lba s1 with
      | none => rw [h2] at h; cases h
      | some p =>
        obtain ⟨b, s2⟩ := p
        rw [h2] at h
        simp only at h
        cases h3 : strF rd x.hash s2 with
        | none => rw [h3] at h; cases h
        | some p =>
          obtain ⟨c, s3⟩ := p
          rw [h3] at h
          have l2 := numF_len h2
          have l3 := strF_len h3
          have l4 : (if rd then 0 else x.hash.size) ≤ 32 := by cases rd <;> simp [hx]
          simp only [Option.some.injEq, Prod.mk.injEq] at h
          rw [← h.2]; omega
theorem strsF_len {rd : Bool} {xs : List ByteArray} (hx : rd = false → ∀ x ∈ xs, x.size ≤ 32) : ∀ (k : Nat) {s s' : List UInt8} {d : List ByteArray}, strsF rd xs s k = some (d, s') → s'.length ≤ s.length + 32 * k ∧ d.length = k := by
  intro k
  induction k with
  | zero =>
    intro s s' d h
    simp only [strsF, Option.some.injEq, Prod.mk.injEq] at h
    rw [← h.2, ← h.1]; simp
  | succ k ih =>
    intro s s' d h
    simp only [strsF] at h
    cases h1 : strsF rd xs s k with
    | none => rw [h1] at h; cases h
    | some p =>
      obtain ⟨d1, s1⟩ := p
      rw [h1] at h
      simp only at h
      have l1 := ih h1
      cases h2 : strF rd (xs.getD k ⟨#[]⟩) s1 with
      | none => rw [h2] at h; cases h
      | some p =>
        obtain ⟨x, s2⟩ := p
        rw [h2] at h
        have l2 := strF_len h2
        have l3 : (if rd then 0 else (xs.getD k ⟨#[]⟩).size) ≤ 32 := by
          cases rd with
          | true => simp
          | false =>
            simp only [Bool.false_eq_true, if_false]
            rw [List.getD_eq_getElem?_getD]
            cases hg : xs[k]? with
            | none => exact Nat.zero_le _
            | some y => exact hx rfl y (List.mem_of_getElem? hg)
        simp only [Option.some.injEq, Prod.mk.injEq] at h
        rw [← h.2, ← h.1, List.length_append]
        simp only [List.length_cons, List.length_nil]
        omega
theorem numF_one {rd : Bool} {n n' : Int} {s s' : List UInt8} (h : numF rd 1 n s = some (n', s')) (hn : rd = false → 0 ≤ n ∧ n < 256) : 0 ≤ n' ∧ n' < 256 := by
  unfold numF at h
  cases rd with
  | false => simp only [Bool.false_eq_true, if_false, Option.some.injEq, Prod.mk.injEq] at h; rw [← h.1]; exact hn rfl
  | true =>
    simp only [if_true] at h
    split at h
    · cases h
    · injection h with h; injection h with h _
      have := beNum_lt (s.take 1)
      have h2 : (s.take 1).length ≤ 1 := by rw [List.length_take]; omega
      have h3 : 256 ^ (s.take 1).length ≤ 256 ^ 1 := Nat.pow_le_pow_right (by omega) h2
      omega
theorem pathF_len {rd : Bool} {xs ys : List ByteArray} {s s' : List UInt8} (h : pathF rd xs s = some (ys, s')) (hl : rd = false → xs.length ≤ 12) (hx : rd = false → ∀ x ∈ xs, x.size ≤ 32) : s'.length ≤ s.length + 8200 ∧ ys.length ≤ 256 := by
  unfold pathF at h
  cases h1 : numF rd 1 (xs.length : Int) s with
  | none => rw [h1] at h; cases h
  | some p =>
    obtain ⟨n, s1⟩ := p
    rw [h1] at h
    simp only at h
    have l1 := numF_len h1
    have l2 := numF_one h1 (fun e => by have := hl e; omega)
    cases rd with
    | true =>
      simp only [if_true] at h
      have := strsF_len (rd := true) (fun e => by cases e) _ h
      omega
    | false =>
      simp only [Bool.false_eq_true, if_false] at h
      have := strsF_len hx _ h
      have := hl rfl
      omega
theorem textF_len {rd : Bool} {x x' : ByteArray} {s s' : List UInt8} (h : textF rd x s = some (x', s')) : s'.length ≤ s.length + (if rd then 0 else 4 + x.size) := by
  unfold textF at h
  cases rd with
  | true =>
    simp only [if_true] at h
    cases hc : cutS s with
    | none => rw [hc] at h; cases h
    | some p =>
      obtain ⟨a, b⟩ := p
      rw [hc] at h
      simp only [Option.some.injEq, Prod.mk.injEq] at h
      have := (cutS_len hc).2
      rw [← h.2]; simpa using this
  | false =>
    simp only [Bool.false_eq_true, if_false, Option.some.injEq, Prod.mk.injEq] at h
    rw [← h.2, List.length_append, textL_length]
    simp only [Bool.false_eq_true, if_false]
    show _ + (4 + x.size) ≤ _
    exact Nat.le_refl _

/-! What is written. -/
theorem numF_w (k : Nat) (n : Int) (s : List UInt8) : numF false k n s = some (n, s ++ beBytes k n.toNat) := rfl
theorem strF_w (x : ByteArray) (s : List UInt8) : strF false x s = some (x, s ++ x.data.toList) := rfl
theorem flagF_w (b : Bool) (s : List UInt8) : flagF false b s = some (b, s ++ flagL b) := by cases b <;> rfl
theorem askF_w (e l : Int) (s : List UInt8) : askF false e l s = some ((e, l), s ++ askBL e l) := by simp [askF, numF_w, askBL]
theorem leafF_w (x : LeafD) (s : List UInt8) : leafF false x s = some (x, s ++ leafL x) := by
  unfold leafF
  rw [flagF_w]
  by_cases h : x = LeafD.zero
  · simp [h, leafL]
  · simp [h, leafL, numF_w, strF_w]
theorem strsF_w (xs : List ByteArray) (s : List UInt8) : ∀ k, k ≤ xs.length → strsF false xs s k = some (xs.take k, s ++ ((xs.take k).map (·.data.toList)).flatten) := by
  intro k
  induction k with
  | zero => intro _; simp [strsF]
  | succ k ih =>
    intro hk
    have hg : xs.getD k ⟨#[]⟩ = xs[k]'(by omega) := by rw [List.getD_eq_getElem?_getD, List.getElem?_eq_getElem (by omega)]; rfl
    simp only [strsF, ih (by omega), strF_w, hg]
    rw [List.take_succ_eq_append_getElem (by omega)]
    simp only [List.map_append, List.map_cons, List.map_nil, List.flatten_append, List.flatten_cons, List.flatten_nil, List.append_nil, List.append_assoc]
theorem pathF_w (xs : List ByteArray) (s : List UInt8) : pathF false xs s = some (xs, s ++ pathL xs) := by
  unfold pathF
  rw [numF_w]
  simp only [Bool.false_eq_true, if_false]
  rw [strsF_w _ _ _ (Nat.le_refl _), List.take_length]
  simp [pathL]
theorem textF_w (x : ByteArray) (s : List UInt8) : textF false x s = some (x, s ++ textL x.data.toList) := rfl
theorem recF_w (r : Rec) (s : List UInt8) : recF false r s = some (r, s ++ recPut r) := rfl
theorem rcpF_w (x : Rcp) (s : List UInt8) : rcpF false x s = some (x, s ++ rcpPut x) := rfl
theorem toldF_w (t : ToldD) (s : List UInt8) : toldF false t s = some (t, s ++ toldL t) := by
  obtain ⟨e, l, g, f, a, h, ah, u, le, sl, ci⟩ := t
  cases g with
  | true => simp [toldF, askF_w, flagF_w, toldL]
  | false => simp [toldF, toldF2, askF_w, flagF_w, numF_w, textF_w, leafF_w, pathF_w, toldL]
theorem nonceF_w {m : MsgD} (h : m.kind = 10 → m.nonce = ⟨#[]⟩) (s : List UInt8) : nonceF false m s = some (m, s ++ m.nonce.data.toList) := by
  unfold nonceF
  split
  · next hk => rw [h hk]; simp
  · rw [strF_w]
theorem restF_w (m : MsgD) (s : List UInt8) : restF false m s = some (m, s ++ restL m) := by
  unfold restF restL
  simp only [numF_w, strF_w, askF_w, toldF_w, rcpF_w, recF_w]
  split
  · rfl
  split
  · simp
  split
  · rfl
  split
  · simp
  split
  · rfl
  split
  · rfl
  split
  · rfl
  · simp
theorem tagF_w {br : Bool} {m : MsgD} (h : taggedB m.kind = false → m.tag = ⟨#[]⟩) (s : List UInt8) : tagF false br m s = some (m, s ++ (if br then [] else m.tag.data.toList)) := by
  unfold tagF
  cases br with
  | true => simp
  | false =>
    cases ht : taggedB m.kind with
    | true => simp [strF_w]
    | false => simp [h ht]
theorem partsF_w {br : Bool} {m : MsgD} (h1 : m.kind = 10 → m.nonce = ⟨#[]⟩) (h2 : taggedB m.kind = false → m.tag = ⟨#[]⟩) (s : List UInt8) :
    partsF false br m s = some (m, s ++ m.nonce.data.toList ++ restL m ++ (if br then [] else m.tag.data.toList)) := by
  unfold partsF
  rw [nonceF_w h1]
  simp only
  rw [restF_w]
  simp only
  rw [tagF_w h2]
end Go.Proofs.YtidekfbgjghcjaaGreat

