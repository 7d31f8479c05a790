/- Plain SHA-256 over lists of bytes and natural numbers, and small laws on it. No program in sight. Blocks of memory known whole, and what stores, new blocks and draws do to them. No program in sight. Slices of bytes that the call itself makes; bytes as a string. No program in sight. Rows of cells behind which something may be frozen (bytes of a string made a slice); variables of one cell. No program in sight. Rows of the call's own, and what becomes of them and of blocks beside them. No program in sight. The equality of two structs as one step, field by field. No program in sight. Contracts of Go's library at this dump, in the words of texts: strings.Repeat of a nought, strings.Clone, the Builder's writers. How a function ends that tells a text or an errno. HMAC over lists of bytes. No program in sight. What is said of a label and numbers, and keys made of it, over lists of bytes. No program in sight. Records, sealed records and receipts, as plain data; names. No program in sight. The shelf's layings of the Builder's two writers at this dump, which the one command leaves out, by the names of their types. A Builder of the call's own, by the bytes that it holds. -/
import Derived.WalkKit
import Derived.ProofKit
import Derived.Deep.MidRow
import Derived.Deep.Draws
import Derived.StillTailTactics
import Derived.Lib.ConvBytes
import Derived.Great.BuildSlice
import Derived.Laws.AppendOwn
import Derived.Laws.StructEq
import Derived.Test.YtppdboadjefieaaGreatShelf
import Derived.Shelf.Strings.Repeat
import Derived.Handy
import Derived.Lib.Hide
import Derived.Outline
import Derived.Shelf.Strings.Builder1
import Derived.Shelf.Strings.Builder2
import Derived.Shelf.Lay
set_option linter.unusedSimpArgs false
set_option linter.unusedVariables false
namespace Go.Proofs.YtppdboadjefieaaGreat
open Go

def rotr (x n : Nat) : Nat := (x >>> n ||| x <<< (32 - n)) % 4294967296
def sg0 (x : Nat) : Nat := rotr x 7 ^^^ rotr x 18 ^^^ x / 8
def sg1 (x : Nat) : Nat := rotr x 17 ^^^ rotr x 19 ^^^ x / 1024
def bg0 (a : Nat) : Nat := rotr a 2 ^^^ rotr a 13 ^^^ rotr a 22
def bg1 (e : Nat) : Nat := rotr e 6 ^^^ rotr e 11 ^^^ rotr e 25
def chs (e f g : Nat) : Nat := (e &&& f) ||| ((4294967295 - e) &&& g)
def maj (a b c : Nat) : Nat := (a &&& b) ||| (a &&& c) ||| (b &&& c)

def be32 (l : List UInt8) (i : Nat) : Nat :=
  (l.getD (4 * i) 0).toNat * 16777216 + (l.getD (4 * i + 1) 0).toNat * 65536 + (l.getD (4 * i + 2) 0).toNat * 256 + (l.getD (4 * i + 3) 0).toNat

def nextWord (l : List UInt8) (ws : List Nat) : Nat :=
  if ws.length < 16 then be32 l ws.length
  else (ws.getD (ws.length - 16) 0 + sg0 (ws.getD (ws.length - 15) 0) + ws.getD (ws.length - 7) 0 + sg1 (ws.getD (ws.length - 2) 0)) % 4294967296

def wordsTo (l : List UInt8) : Nat → List Nat
  | 0 => []
  | k + 1 => wordsTo l k ++ [nextWord l (wordsTo l k)]

def roundK : List Nat := [
  0x428a2f98, 0x71374491, 0xb5c0fbcf, 0xe9b5dba5, 0x3956c25b, 0x59f111f1, 0x923f82a4, 0xab1c5ed5,
  0xd807aa98, 0x12835b01, 0x243185be, 0x550c7dc3, 0x72be5d74, 0x80deb1fe, 0x9bdc06a7, 0xc19bf174,
  0xe49b69c1, 0xefbe4786, 0x0fc19dc6, 0x240ca1cc, 0x2de92c6f, 0x4a7484aa, 0x5cb0a9dc, 0x76f988da,
  0x983e5152, 0xa831c66d, 0xb00327c8, 0xbf597fc7, 0xc6e00bf3, 0xd5a79147, 0x06ca6351, 0x14292967,
  0x27b70a85, 0x2e1b2138, 0x4d2c6dfc, 0x53380d13, 0x650a7354, 0x766a0abb, 0x81c2c92e, 0x92722c85,
  0xa2bfe8a1, 0xa81a664b, 0xc24b8b70, 0xc76c51a3, 0xd192e819, 0xd6990624, 0xf40e3585, 0x106aa070,
  0x19a4c116, 0x1e376c08, 0x2748774c, 0x34b0bcb5, 0x391c0cb3, 0x4ed8aa4a, 0x5b9cca4f, 0x682e6ff3,
  0x748f82ee, 0x78a5636f, 0x84c87814, 0x8cc70208, 0x90befffa, 0xa4506ceb, 0xbef9a3f7, 0xc67178f2]

structure S8 where
  a : Nat
  b : Nat
  c : Nat
  d : Nat
  e : Nat
  f : Nat
  g : Nat
  h : Nat

def S8.first : S8 := ⟨0x6a09e667, 0xbb67ae85, 0x3c6ef372, 0xa54ff53a, 0x510e527f, 0x9b05688c, 0x1f83d9ab, 0x5be0cd19⟩

def S8.l (s : S8) : List Nat := [s.a, s.b, s.c, s.d, s.e, s.f, s.g, s.h]

def tOf (s : S8) (k w : Nat) : Nat := s.h + bg1 s.e + chs s.e s.f s.g + k + w
def uOf (s : S8) : Nat := bg0 s.a + maj s.a s.b s.c

def rnd (s : S8) (k w : Nat) : S8 :=
  ⟨(tOf s k w + uOf s) % 4294967296, s.a, s.b, s.c, (s.d + tOf s k w) % 4294967296, s.e, s.f, s.g⟩

def rnds (ws : List Nat) (s : S8) : Nat → S8
  | 0 => s
  | n + 1 => rnd (rnds ws s n) (roundK.getD n 0) (ws.getD n 0)

def S8.add (x y : S8) : S8 :=
  ⟨(x.a + y.a) % 4294967296, (x.b + y.b) % 4294967296, (x.c + y.c) % 4294967296, (x.d + y.d) % 4294967296,
   (x.e + y.e) % 4294967296, (x.f + y.f) % 4294967296, (x.g + y.g) % 4294967296, (x.h + y.h) % 4294967296⟩

def stp (s : S8) (blk : List UInt8) : S8 := (rnds (wordsTo blk 64) s 64).add s

def blocks : Nat → S8 → List UInt8 → S8
  | 0, s, _ => s
  | n + 1, s, l => blocks n (stp s (l.take 64)) (l.drop 64)

def beBytes : Nat → Nat → List UInt8
  | 0, _ => []
  | w + 1, n => beBytes w (n / 256) ++ [UInt8.ofNat (n % 256)]

def padL (n : Nat) : List UInt8 := 128 :: (List.replicate (63 - (n + 8) % 64) 0 ++ beBytes 8 (8 * n))

def S8.text (s : S8) : List UInt8 :=
  beBytes 4 s.a ++ beBytes 4 s.b ++ beBytes 4 s.c ++ beBytes 4 s.d ++ beBytes 4 s.e ++ beBytes 4 s.f ++ beBytes 4 s.g ++ beBytes 4 s.h

def sha (m : List UInt8) : List UInt8 := (blocks ((m ++ padL m.length).length / 64) S8.first (m ++ padL m.length)).text

theorem beBytes_length (w n : Nat) : (beBytes w n).length = w := by
  induction w generalizing n with
  | zero => rfl
  | succ w ih => simp [beBytes, ih]

theorem S8.text_length (s : S8) : s.text.length = 32 := by simp [S8.text, beBytes_length]
theorem sha_length (m : List UInt8) : (sha m).length = 32 := S8.text_length _

theorem padL_length (n : Nat) : (padL n).length = 72 - (n + 8) % 64 := by
  simp [padL, beBytes_length]; omega

theorem wordsTo_length (l : List UInt8) (k : Nat) : (wordsTo l k).length = k := by
  induction k with
  | zero => rfl
  | succ k ih => simp [wordsTo, ih]

theorem rotr_lt (x n : Nat) : rotr x n < 4294967296 := Nat.mod_lt _ (by decide)

theorem xor_lt32 {a b : Nat} (ha : a < 4294967296) (hb : b < 4294967296) : a ^^^ b < 4294967296 := Nat.xor_lt_two_pow (n := 32) ha hb
theorem or_lt32 {a b : Nat} (ha : a < 4294967296) (hb : b < 4294967296) : a ||| b < 4294967296 := Nat.or_lt_two_pow (n := 32) ha hb
theorem and_lt32 {a b : Nat} (ha : a < 4294967296) : a &&& b < 4294967296 := Nat.lt_of_le_of_lt Nat.and_le_left ha

theorem be32_lt (l : List UInt8) (i : Nat) : be32 l i < 4294967296 := by
  have h0 := (l.getD (4 * i) 0).toNat_lt
  have h1 := (l.getD (4 * i + 1) 0).toNat_lt
  have h2 := (l.getD (4 * i + 2) 0).toNat_lt
  have h3 := (l.getD (4 * i + 3) 0).toNat_lt
  unfold be32; omega

theorem nextWord_lt (l : List UInt8) (ws : List Nat) : nextWord l ws < 4294967296 := by
  unfold nextWord; split
  · exact be32_lt _ _
  · exact Nat.mod_lt _ (by decide)

theorem wordsTo_lt (l : List UInt8) (k j : Nat) : (wordsTo l k).getD j 0 < 4294967296 := by
  induction k generalizing j with
  | zero => simp [wordsTo]
  | succ k ih =>
    simp only [wordsTo, List.getD_eq_getElem?_getD, List.getElem?_append]
    split
    · have := ih j; rwa [List.getD_eq_getElem?_getD] at this
    · cases h : j - (wordsTo l k).length with
      | zero => simp [nextWord_lt]
      | succ n => simp

def S8.ok (s : S8) : Prop := s.a < 4294967296 ∧ s.b < 4294967296 ∧ s.c < 4294967296 ∧ s.d < 4294967296 ∧ s.e < 4294967296 ∧ s.f < 4294967296 ∧ s.g < 4294967296 ∧ s.h < 4294967296

theorem S8.first_ok : S8.first.ok := by unfold S8.ok S8.first; decide
theorem rnd_ok {s : S8} (h : s.ok) (k w : Nat) : (rnd s k w).ok := by
  obtain ⟨h1, h2, h3, h4, h5, h6, h7, h8⟩ := h
  exact ⟨Nat.mod_lt _ (by decide), h1, h2, h3, Nat.mod_lt _ (by decide), h5, h6, h7⟩
theorem rnds_ok (ws : List Nat) {s : S8} (h : s.ok) (n : Nat) : (rnds ws s n).ok := by
  induction n with
  | zero => exact h
  | succ n ih => exact rnd_ok ih _ _
theorem S8.add_ok (x y : S8) : (x.add y).ok :=
  ⟨Nat.mod_lt _ (by decide), Nat.mod_lt _ (by decide), Nat.mod_lt _ (by decide), Nat.mod_lt _ (by decide), Nat.mod_lt _ (by decide), Nat.mod_lt _ (by decide), Nat.mod_lt _ (by decide), Nat.mod_lt _ (by decide)⟩
theorem stp_ok (s : S8) (blk : List UInt8) : (stp s blk).ok := S8.add_ok _ _
theorem blocks_ok (n : Nat) {s : S8} (h : s.ok) (l : List UInt8) : (blocks n s l).ok := by
  induction n generalizing s l with
  | zero => exact h
  | succ n ih => exact ih (stp_ok _ _) _

theorem blocks_append (n m : Nat) (s : S8) (x y : List UInt8) (hx : x.length = 64 * n) : blocks (n + m) s (x ++ y) = blocks m (blocks n s x) y := by
  induction n generalizing s x with
  | zero => have : x = [] := List.eq_nil_of_length_eq_zero (by omega); subst this; simp [blocks]
  | succ n ih =>
    rw [show n + 1 + m = (n + m) + 1 by omega]
    simp only [blocks]
    rw [List.take_append_of_le_length (by omega), List.drop_append_of_le_length (by omega), ih _ _ (by simp; omega)]

theorem blocks_take (n : Nat) (s : S8) (x : List UInt8) : blocks n s (x.take (64 * n)) = blocks n s x := by
  induction n generalizing s x with
  | zero => simp [blocks]
  | succ n ih =>
    simp only [blocks]
    rw [List.take_take, Nat.min_eq_left (by omega), List.drop_take, show 64 * (n + 1) - 64 = 64 * n by omega, ih]

example : sha [] = [0xe3, 0xb0, 0xc4, 0x42, 0x98, 0xfc, 0x1c, 0x14, 0x9a, 0xfb, 0xf4, 0xc8, 0x99, 0x6f, 0xb9, 0x24, 0x27, 0xae, 0x41, 0xe4, 0x64, 0x9b, 0x93, 0x4c, 0xa4, 0x95, 0x99, 0x1b, 0x78, 0x52, 0xb8, 0x55] := by decide +kernel

/-! ### the other way to say a round's numbers -/
theorem testBit_compl32 (e i : Nat) (he : e < 4294967296) : (4294967295 - e).testBit i = (decide (i < 32) && !e.testBit i) := by
  have := Nat.testBit_two_pow_sub_succ (n := 32) (x := e) he i
  simpa using this

theorem chs_eq {e f g : Nat} (he : e < 4294967296) (hg : g < 4294967296) : g ^^^ (e &&& (f ^^^ g)) = chs e f g := by
  apply Nat.eq_of_testBit_eq
  intro i
  simp only [chs, Nat.testBit_xor, Nat.testBit_and, Nat.testBit_or, testBit_compl32 e i he]
  by_cases hi : i < 32
  · simp [hi]; cases e.testBit i <;> cases f.testBit i <;> cases g.testBit i <;> rfl
  · have h1 : e.testBit i = false := Nat.testBit_lt_two_pow (Nat.lt_of_lt_of_le he (Nat.pow_le_pow_right (n := 2) (by omega) (by omega : 32 ≤ i)))
    have h2 : g.testBit i = false := Nat.testBit_lt_two_pow (Nat.lt_of_lt_of_le hg (Nat.pow_le_pow_right (n := 2) (by omega) (by omega : 32 ≤ i)))
    simp [h1, h2]

theorem maj_eq (a b c : Nat) : (a &&& b) ||| (c &&& (a ||| b)) = maj a b c := by
  apply Nat.eq_of_testBit_eq
  intro i
  simp only [maj, Nat.testBit_and, Nat.testBit_or]
  cases a.testBit i <;> cases b.testBit i <;> cases c.testBit i <;> rfl

end Go.Proofs.YtppdboadjefieaaGreat
namespace Go.Proofs.YtppdboadjefieaaGreat
open Go Go.RowKit

def Blk (w : World) (b : Nat) (c : List Value) (t : TypeId) : Prop := w.heap[b]? = some (.cells c.toArray t (0, 0))

section
variable {w : World} {b : Nat} {c : List Value} {t : TypeId}

theorem Blk.lt (h : Blk w b c t) : b < w.heap.size := by
  unfold Blk at h
  exact (Array.getElem?_eq_some_iff.1 h).1
theorem Blk.cell? (h : Blk w b c t) (i : Nat) : w.cell? ⟨b, i, none⟩ = c[i]? := by
  unfold Blk at h
  simp [World.cell?, h]
theorem Blk.cell (h : Blk w b c t) {i : Nat} {v : Value} (hi : c[i]? = some v) : w.cell? ⟨b, i, none⟩ = some v := by rw [h.cell?, hi]
theorem Blk.free (h : Blk w b c t) (i : Nat) : w.frozen? ⟨b, i, none⟩ = false := by
  unfold Blk at h
  simp [World.frozen?, h]
theorem Blk.set (h : Blk w b c t) (i : Nat) (v : Value) : Blk (w.setCell ⟨b, i, none⟩ v) b (c.set i v) t := by
  unfold Blk at h ⊢
  simp only [World.setCell, Array.getElem?_modify, h]
  simp
theorem Blk.set_other (h : Blk w b c t) {a : Addr} (ha : b ≠ a.block) (v : Value) : Blk (w.setCell a v) b c t := by
  unfold Blk at h ⊢
  rw [Below.heap_setCell _ _ _ _ ha, h]
theorem Blk.alloc (h : Blk w b c t) (o : Obj) : Blk (w.alloc o) b c t := by
  have := h.lt
  unfold Blk at h ⊢
  rw [Below.heap_alloc _ _ _ this, h]
theorem Blk.new (w : World) (c : List Value) (t : TypeId) : Blk (w.alloc (.cells c.toArray t)) w.heap.size c t := by
  unfold Blk
  show (w.heap.push _)[w.heap.size]? = _
  simp
theorem Blk.drewN (h : Blk w b c t) (n : Nat) : Blk (w.drewN n) b c t := by
  unfold Blk at h ⊢
  exact h
theorem Blk.drew (h : Blk w b c t) : Blk w.drew b c t := h
theorem Blk.below (h : Blk w b c t) {B : Nat} {w' : World} (hb : Below B w w') (hB : b < B) : Blk w' b c t := by
  unfold Blk at h ⊢
  rw [hb.block b hB, h]
theorem Blk.ext (h : Blk w b c t) {c' : List Value} (e : c = c') : Blk w b c' t := e ▸ h
theorem Blk.range (h : Blk w b c t) : w.rangeAt b 0 c := by
  intro j v hv
  rw [Nat.zero_add]
  exact h.cell hv
end

theorem still_of {P : Program} {f : FuncId} {args : Array Value} {w : World} {v : Value} (h : Calls P f args w fun e w' => e = .returned v ∧ w = w') :
    Calls P f args w fun e w'' => e = .returned v ∧ w'' = w := h.mono fun _ _ ⟨a, b⟩ => ⟨a, b.symm⟩

theorem World.there_of {w : World} {b : Nat} {c : List Value} {t : TypeId} (h : Blk w b c t) {n : Nat} (hn : n = c.length) : w.there b 0 n := by
  intro j hj
  subst hn
  rw [Nat.zero_add]
  exact ⟨by rw [h.cell?]; simp [hj], h.free j⟩

theorem Blk.setCells {b : Nat} {t : TypeId} (vs : List Value) : ∀ {w : World} {c : List Value} (o : Nat), Blk w b c t → o + vs.length ≤ c.length →
    Blk (w.setCells b o vs) b (c.take o ++ vs ++ c.drop (o + vs.length)) t := by
  induction vs with
  | nil => intro w c o h _; simpa [World.setCells] using h
  | cons v r ih =>
    intro w c o h hl
    simp only [List.length_cons] at hl
    have := ih (o + 1) (h.set o v) (by simp; omega)
    refine Blk.ext this ?_
    have e1 : (c.set o v).take (o + 1) = c.take o ++ [v] := by
      rw [List.take_set, List.take_succ_eq_append_getElem (by omega), List.set_append_right _ _ (by simp; omega)]
      simp [Nat.min_eq_left (by omega : o ≤ c.length)]
    rw [e1, List.drop_set_of_lt (by omega)]
    simp [Nat.add_assoc, Nat.add_comm 1]

theorem Blk.setAll {w : World} {b : Nat} {c : List Value} {t : TypeId} (h : Blk w b c t) (vs : List Value) (hl : vs.length = c.length) : Blk (w.setCells b 0 vs) b vs t := by
  have := h.setCells vs 0 (by omega)
  refine this.ext ?_
  simp [hl]

theorem Below.setCells {B : Nat} {a : World} {b : Nat} (hb : B ≤ b) (vs : List Value) : ∀ {w : World} (o : Nat), Below B a w → Below B a (w.setCells b o vs) := by
  induction vs with
  | nil => intro w o h; exact h
  | cons v r ih => intro w o h; exact ih (o + 1) (h.setCell hb v)

theorem wp_region_still_drew {P : Program} {id : Nat} {Q : Exit → Act → World → Prop} {a : Act} {w : World} {l : List Oper} (hm : P.follows .mixedOrders = true) (hB : Region.lexB .any l.toArray = true)
    (h : wpStill P l.toArray w.drew (fun a' => Q .normal a' w.drew) l a) : (Code.region id l.toArray true).wp P Q a w := wp_region_still_lit hm hB h
theorem wp_region_still_tail_drew {P : Program} {id : Nat} {Q : Exit → Act → World → Prop} {a : Act} {w : World} {l : List Oper} (n : Nat) (hm : P.follows .mixedOrders = true) (hB : Region.lexTailB .any l.toArray n = true)
    (h : wpStill P l.toArray w.drew (fun a' => wpList P l.toArray Q (l.drop n) a' w.drew) (l.take n) a) : (Code.region id l.toArray true).wp P Q a w := wp_region_still_tail n hm hB h

theorem wpList_load_blk {P : Program} {ops : Array Oper} {rest : List Oper} {o : Oper} {a : Act} {w : World} {Q : Exit → Act → World → Prop}
    (ty : TypeId) (x : Operand) (b : Nat) (cs : List Value) (t : TypeId) (d : TypeDesc) (hb : Blk w b cs t)
    (hu : P.underlying ty = some d) (hd : d.isRow = true) (hi : (P.info? ty).map (·.size) = some cs.length)
    (hgd : o.guard = none) (ho : o.op = .load ty x) (hx : a.eval x = .pointer (some ⟨b, 0, none⟩))
    (h : wpList P ops Q rest (a.put o.dst (.agg cs.toArray)) w) : wpList P ops Q (o :: rest) a w :=
  wpList_load_mid hgd ty x ho b 0 hx cs d hb.range hu hd hi h

theorem wpList_store_blk {P : Program} {ops : Array Oper} {rest : List Oper} {o : Oper} {a : Act} {w : World} {Q : Exit → Act → World → Prop}
    (ty : TypeId) (x y : Operand) (b : Nat) (old cs : List Value) (t : TypeId) (hb : Blk w b old t) (hl : cs.length = old.length)
    (hi : (P.info? ty).map (·.size) = some cs.length) (h1 : ∀ v ∈ cs, v.oneCell' = true)
    (hgd : o.guard = none) (ho : o.op = .store ty x y) (hx : a.eval x = .pointer (some ⟨b, 0, none⟩)) (hy : a.eval y = .agg cs.toArray)
    (h : wpList P ops Q rest (a.put o.dst undef) (w.setCells b 0 cs)) : wpList P ops Q (o :: rest) a w :=
  wpList_store_mid hgd ty x y ho b 0 cs.toArray hx hy (World.there_of hb (by simpa using hl)) (by simpa using hi) (all_oneCell_toArray h1) (by simpa using h)

theorem wpList_build_eq {P : Program} {ops : Array Oper} {rest : List Oper} {o : Oper} {a : Act} {w : World} {Q : Exit → Act → World → Prop}
    (t : TypeId) (parts : Array (Nat × Operand)) (cells : List Value) (hg : o.guard = none) (ho : o.op = .build t parts)
    (hf : P.built t (parts.map fun (i, x) => (i, a.eval x)).toList = some cells.toArray)
    (h : wpList P ops Q rest (a.put o.dst (.agg cells.toArray)) w) : wpList P ops Q (o :: rest) a w :=
  wpList_build hg t parts ho (by rw [hf]; rfl) (by rw [hf]; exact h)

structure Only (b : Nat) (w w' : World) : Prop where
  os : w'.os = w.os
  tape : w'.tape = w.tape
  output : w'.output = w.output
  size : w'.heap.size = w.heap.size
  block : ∀ k, k ≠ b → w'.heap[k]? = w.heap[k]?

theorem Only.blk {b : Nat} {w w' : World} (h : Only b w w') {b' : Nat} {c : List Value} {t : TypeId} (hb : Blk w b' c t) (hne : b' ≠ b) : Blk w' b' c t := by
  unfold Blk at hb ⊢
  rw [h.block b' hne, hb]
theorem Only.below {b B : Nat} {a w w' : World} (h : Only b w w') (hb : Below B a w) (hB : B ≤ b) : Below B a w' :=
  hb.trans ⟨h.os, h.tape, h.output, by rw [h.size]; exact Nat.le_refl _, fun k hk => h.block k (by omega)⟩
theorem Only.refl (b : Nat) (w : World) : Only b w w := ⟨rfl, rfl, rfl, rfl, fun _ _ => rfl⟩
theorem Only.setCell {b : Nat} {w w' : World} (h : Only b w w') (i : Nat) (v : Value) : Only b w (w'.setCell ⟨b, i, none⟩ v) :=
  ⟨h.os, h.tape, h.output, by simp [World.setCell, h.size], fun k hk => by rw [Below.heap_setCell _ _ _ _ hk, h.block k hk]⟩
theorem Only.setCells {b : Nat} (vs : List Value) : ∀ {w w' : World} (o : Nat), Only b w w' → Only b w (w'.setCells b o vs) := by
  induction vs with
  | nil => intro w w' o h; exact h
  | cons v r ih => intro w w' o h; exact ih (o + 1) (h.setCell o v)

structure Kept (b : Nat) (w w' : World) : Prop where
  os : w'.os = w.os
  tape : w'.tape = w.tape
  output : w'.output = w.output
  size : w.heap.size ≤ w'.heap.size
  block : ∀ k, k < w.heap.size → k ≠ b → w'.heap[k]? = w.heap[k]?

theorem Kept.refl (b : Nat) (w : World) : Kept b w w := ⟨rfl, rfl, rfl, Nat.le_refl _, fun _ _ _ => rfl⟩
theorem Kept.blk {b : Nat} {w w' : World} (h : Kept b w w') {b' : Nat} {c : List Value} {t : TypeId} (hb : Blk w b' c t) (hne : b' ≠ b) : Blk w' b' c t := by
  have := hb.lt
  unfold Blk at hb ⊢
  rw [h.block b' this hne, hb]
theorem Kept.below {b B : Nat} {a w w' : World} (h : Kept b w w') (hb : Below B a w) (hB : B ≤ b) (hs : B ≤ w.heap.size) : Below B a w' :=
  hb.trans ⟨h.os, h.tape, h.output, h.size, fun k hk => h.block k (by omega) (by omega)⟩
theorem Kept.only {b : Nat} {u w w' : World} (h : Kept b u w) (o : Only b w w') : Kept b u w' :=
  ⟨o.os.trans h.os, o.tape.trans h.tape, o.output.trans h.output, by rw [o.size]; exact h.size, fun i hi hne => (o.block i hne).trans (h.block i hi hne)⟩
theorem Kept.below' {b B : Nat} {u w w' : World} (h : Kept b u w) (k : Below B w w') (hB : w.heap.size ≤ B) : Kept b u w' :=
  ⟨k.os.trans h.os, k.tape.trans h.tape, k.output.trans h.output, Nat.le_trans h.size k.size, fun i hi hne => (k.block i (by have := h.size; omega)).trans (h.block i hi hne)⟩
theorem Kept.setCell {b : Nat} {u w : World} (h : Kept b u w) (i : Nat) (v : Value) : Kept b u (w.setCell ⟨b, i, none⟩ v) := h.only ((Only.refl b w).setCell i v)
theorem Kept.drew {b : Nat} {u w : World} (h : Kept b u w) : Kept b u w.drew := ⟨h.os, h.tape, h.output, h.size, h.block⟩

section
variable {P : Program} {ops : Array Oper} {rest : List Oper} {o : Oper} {a : Act} {w : World} {Q : Exit → Act → World → Prop}

theorem wpList_alloc_new (ty : TypeId) (z : List Value) (hz : ∀ w, (zeroValue ty).run P w = .ok (.agg z.toArray) w) (d : Option Tmp)
    (hg : o.guard = none) (ho : o.op = .alloc ty) (hd : o.dst = d)
    (h : ∀ n w', w.heap.size ≤ n → Blk w' n z ty → Below n w w' → n < w'.heap.size → wpList P ops Q rest (a.put d (.pointer (some ⟨n, 0, none⟩))) w') : wpList P ops Q (o :: rest) a w := by
  subst hd
  refine wpList_plain hg fun K hK => ?_
  unfold Oper.wp execOp
  simp only [ho, Instr.alloc, Sem.run_bind, hz, Result.andThen_ok, newVar, newRow, Value.cells, run_newObj, Sem.run_pure]
  exact hK _ _ (h _ _ (Nat.le_refl _) (Blk.new w z ty) ((Below.refl _ _).alloc (Nat.le_refl _) _) (by simp))

theorem wpList_index_arr (ty e : TypeId) (x y : Operand) (cs : List Value) (n k : Nat) (v : Value) (d : Option Tmp)
    (hu : P.underlying ty = some (.array n e)) (ha : ∀ w, (isAgg e).run P w = .ok false w) (hz : ∀ w, (sizeOf e).run P w = .ok 1 w)
    (hk : k < n) (hv : cs[k]? = some v)
    (hg : o.guard = none) (ho : o.op = .index ty x y) (hd : o.dst = d) (hx : a.eval x = .agg cs.toArray) (hy : a.eval y = .int .i64 (k : Int))
    (h : wpList P ops Q rest (a.put d v) w) : wpList P ops Q (o :: rest) a w := by
  subst hd
  refine wpList_plain hg fun K hK => ?_
  unfold Oper.wp execOp
  have hv' : cs.toArray[k]? = some v := by simpa using hv
  have h2 : (0 : Int) ≤ (k : Int) ∧ (k : Int) < (n : Int) := ⟨by omega, by omega⟩
  simp only [ho, hx, hy, Instr.index, asIntOf, Sem.run_bind, Sem.run_pure, Result.andThen_ok, run_underlying hu, if_pos h2, hz, part, ha, Int.toNat_natCast, Nat.mul_one, hv']
  exact hK _ _ h

theorem wpList_box_new (ty : TypeId) (x : Operand) (z : List Value) (d : Option Tmp)
    (hg : o.guard = none) (ho : o.op = .box ty x) (hd : o.dst = d) (hx : a.eval x = .agg z.toArray)
    (h : ∀ n w', w.heap.size ≤ n → Blk w' n z ty → Below n w w' → n < w'.heap.size → wpList P ops Q rest (a.put d (.pointer (some ⟨n, 0, none⟩))) w') : wpList P ops Q (o :: rest) a w := by
  subst hd
  refine wpList_plain hg fun K hK => ?_
  unfold Oper.wp execOp
  simp only [ho, hx, Instr.box, Sem.run_bind, Result.andThen_ok, newVar, newRow, Value.cells, run_newObj, Sem.run_pure]
  exact hK _ _ (h _ _ (Nat.le_refl _) (Blk.new w z ty) ((Below.refl _ _).alloc (Nat.le_refl _) _) (by simp))

theorem wpList_store_new (ty : TypeId) (x y : Operand) (b : Nat) (old cs : List Value) (t : TypeId) (hb : Blk w b old t) (hl : cs.length = old.length)
    (hi : (P.info? ty).map (·.size) = some cs.length) (h1 : ∀ v ∈ cs, v.oneCell' = true)
    (hgd : o.guard = none) (ho : o.op = .store ty x y) (hx : a.eval x = .pointer (some ⟨b, 0, none⟩)) (hy : a.eval y = .agg cs.toArray)
    (h : ∀ w', Blk w' b cs t → Only b w w' → wpList P ops Q rest (a.put o.dst undef) w') : wpList P ops Q (o :: rest) a w :=
  wpList_store_blk ty x y b old cs t hb hl hi h1 hgd ho hx hy (h _ (hb.setAll cs hl) ((Only.refl b w).setCells cs 0))
end

theorem Blk.rangeMid {w : World} {b : Nat} {x y z : List Value} {t : TypeId} (h : Blk w b (x ++ y ++ z) t) {off : Nat} (ho : off = x.length) : w.rangeAt b off y := by
  intro j v hv
  subst ho
  refine h.cell ?_
  have hj := (List.getElem?_eq_some_iff.1 hv).1
  rw [List.append_assoc, List.getElem?_append_right (by omega), Nat.add_sub_cancel_left, List.getElem?_append_left hj, hv]

theorem Below.drewN {B : Nat} {a w : World} (h : Below B a w) (n : Nat) : Below B a (w.drewN n) := ⟨h.os, h.tape, h.output, h.size, h.block⟩

end Go.Proofs.YtppdboadjefieaaGreat
namespace Go.Proofs.YtppdboadjefieaaGreat
open Go Go.RowKit

def str (l : List UInt8) : Value := .string ⟨l.toArray⟩
def Txt (r : ByteArray) (l : List UInt8) : Prop := r.data.toList = l
theorem Txt.size {r : ByteArray} {l : List UInt8} (h : Txt r l) : r.size = l.length := by
  unfold Txt at h; rw [← h]; rfl
theorem Txt.self (r : ByteArray) : Txt r r.data.toList := rfl
theorem Txt.mk (l : List UInt8) : Txt ⟨l.toArray⟩ l := rfl
theorem Txt.eq {r r' : ByteArray} {l : List UInt8} (h : Txt r l) (h' : Txt r' l) : r = r' := by
  unfold Txt at h h'
  cases r with | mk a => cases r' with | mk b =>
  congr 1
  exact Array.toList_inj.1 (h.trans h'.symm)
theorem Txt.of {r : ByteArray} {l : List UInt8} (h : Txt r l) : r = ⟨l.toArray⟩ := h.eq (Txt.mk l)
theorem Txt.append {r r' : ByteArray} {l l' : List UInt8} (h : Txt r l) (h' : Txt r' l') : Txt (r ++ r') (l ++ l') := by
  unfold Txt at h h' ⊢
  rw [← h, ← h']
  simp
theorem Txt.extract {r : ByteArray} {l : List UInt8} (h : Txt r l) (a b : Nat) : Txt (r.extract a b) ((l.take b).drop a) := by
  unfold Txt at h ⊢
  rw [← h, ByteArray.data_extract, Array.toList_extract]
  simp [List.extract, List.drop_take]
theorem Txt.cast {r : ByteArray} {l l' : List UInt8} (h : Txt r l) (e : l = l') : Txt r l' := e ▸ h
def bytesV (l : List UInt8) : List Value := l.map fun b => .int .u8 ((b.toNat : Nat) : Int)

theorem bytesV_length (l : List UInt8) : (bytesV l).length = l.length := by simp [bytesV]
theorem bytesV_at (l : List UInt8) (i : Nat) (hi : i < l.length) : (bytesV l)[i]? = some (.int .u8 ((l[i].toNat : Nat) : Int)) := by simp [bytesV, hi]
theorem bytesV_set (l : List UInt8) (i : Nat) (b : UInt8) : (bytesV l).set i (.int .u8 ((b.toNat : Nat) : Int)) = bytesV (l.set i b) := by simp [bytesV, List.map_set]
theorem bytesV_append (a b : List UInt8) : bytesV (a ++ b) = bytesV a ++ bytesV b := by simp [bytesV]
theorem bytesV_one (l : List UInt8) : ∀ v ∈ bytesV l, v.oneCell' = true := by
  intro v hv
  obtain ⟨_, _, rfl⟩ := List.mem_map.1 hv
  rfl

theorem foldl_push (l : List UInt8) (s : ByteArray) : (l.map fun b => ((b.toNat : Nat) : Int)).foldl (fun r n => r.push (UInt8.ofNat n.toNat)) s = ⟨s.data ++ l.toArray⟩ := by
  induction l generalizing s with
  | nil => simp
  | cons b r ih =>
    rw [List.map_cons, List.foldl_cons, ih]
    simp [ByteArray.push]

theorem run_bytes_string {P : Program} (w : World) (a : Addr) (l : List UInt8) (len cap : Nat) (hl : len = l.length)
    (h : ∀ j v, (bytesV l)[j]? = some v → w.cell? (a.add j) = some v) :
    (Conv.bytesToString (.slice (some a) len cap)).run P w = .ok (str l) w := by
  subst hl
  have := run_loadCells_list (P := P) w a (bytesV l) h
  rw [bytesV_length] at this
  have h2 := run_bytesToString (P := P) w a l.length cap (l.map fun b => ((b.toNat : Nat) : Int)) (by rw [this]; congr 2; simp [bytesV, Function.comp_def])
  rw [h2, foldl_push]
  simp [str, ByteArray.empty, ByteArray.emptyWithCapacity]
  rfl

section
variable {P : Program} {ops : Array Oper} {rest : List Oper} {o : Oper} {a : Act} {w : World} {Q : Exit → Act → World → Prop}

theorem wpList_string_bytes (src dst e : TypeId) (x : Operand) (l : List UInt8) (b off len cap : Nat) (d : Option Tmp)
    (hs : P.underlying src = some (.slice e)) (he : P.underlying e = some (.int .u8)) (hd : P.underlying dst = some .string)
    (hr : w.rangeAt b off (bytesV l)) (hl : len = l.length)
    (hg : o.guard = none) (ho : o.op = .convert src dst x) (hdst : o.dst = d) (hx : a.eval x = .slice (some ⟨b, off, none⟩) len cap)
    (h : wpList P ops Q rest (a.put d (str l)) w) : wpList P ops Q (o :: rest) a w := by
  subst hdst
  refine wpList_plain hg fun K hK => ?_
  unfold Oper.wp execOp
  simp only [ho, hx, Sem.run_bind]
  rw [run_convert_bytes_string w src dst e _ _ _ hs he hd, run_bytes_string w _ l len cap hl (fun j v hv => by rw [Addr.add_mid]; exact hr j v hv)]
  exact hK _ _ h

theorem wpList_make_bytes (t e : TypeId) (x y : Operand) (n : Nat) (d : Option Tmp) (L : Int)
    (ht : P.underlying t = some (.slice e)) (hi : (P.info? e).map (fun i => (i.zero, i.size, i.bytes)) = some (some (.int .u8 0), 1, 1))
    (hn : n ≤ 281474976710656) (hL : L = (n : Int))
    (hg : o.guard = none) (ho : o.op = .makeSlice t x y) (hdst : o.dst = d) (hx : a.eval x = .int .i64 L) (hy : a.eval y = .int .i64 L)
    (h : ∀ g w', w.heap.size ≤ g → Blk w' g (bytesV (List.replicate n 0)) e → Below g w w' → g < w'.heap.size → wpList P ops Q rest (a.put d (.slice (some ⟨g, 0, none⟩) n n)) w') :
    wpList P ops Q (o :: rest) a w := by
  subst hdst hL
  refine wpList_plain hg fun K hK => ?_
  cases hq : P.info? e with
  | none => simp [hq] at hi
  | some i =>
    simp only [hq, Option.map_some, Option.some.injEq, Prod.mk.injEq] at hi
    obtain ⟨i1, i2, i3⟩ := hi
    have := run_make (P := P) w t e i _ ht hq i1 .i64 .i64 (n : Int) (n : Int) (by omega) (by omega) (by rw [i3]; omega) (by omega)
    unfold Oper.wp execOp
    simp only [ho, hx, hy, Sem.run_bind, this, Result.andThen_ok, Sem.run_pure]
    rw [i2, Int.toNat_natCast, Nat.mul_one]
    have e1 : (madeCells (Value.cells (.int .u8 0)) n) = (bytesV (List.replicate n 0)).toArray := by
      have := toList_madeCells_one (.int .u8 0) n
      apply Array.toList_inj.1
      rw [show Value.cells (.int .u8 0) = #[.int .u8 0] from rfl, this]
      simp [bytesV]
    rw [e1]
    exact hK _ _ (h _ _ (Nat.le_refl _) (Blk.new w _ e) ((Below.refl _ _).alloc (Nat.le_refl _) _) (by simp))
end
end Go.Proofs.YtppdboadjefieaaGreat
namespace Go.Proofs.YtppdboadjefieaaGreat
open Go Go.RowKit

def Row (w : World) (b : Nat) (c : List Value) (t : TypeId) : Prop :=
  ∃ fr : Nat × Nat, w.heap[b]? = some (.cells c.toArray t fr) ∧ ∀ i, i < c.length → ¬ (fr.1 ≤ i ∧ i < fr.2)

section
variable {w : World} {b : Nat} {c : List Value} {t : TypeId}
theorem Row.cell? (h : Row w b c t) (i : Nat) : w.cell? ⟨b, i, none⟩ = c[i]? := by
  obtain ⟨fr, h, _⟩ := h
  simp [World.cell?, h]
theorem Row.cell (h : Row w b c t) {i : Nat} {v : Value} (hi : c[i]? = some v) : w.cell? ⟨b, i, none⟩ = some v := by rw [h.cell?, hi]
theorem Row.free (h : Row w b c t) {i : Nat} (hi : i < c.length) : w.frozen? ⟨b, i, none⟩ = false := by
  obtain ⟨fr, h, hf⟩ := h
  have := hf i hi
  simp [World.frozen?, h]
  omega
theorem Row.set (h : Row w b c t) (i : Nat) (v : Value) : Row (w.setCell ⟨b, i, none⟩ v) b (c.set i v) t := by
  obtain ⟨fr, h, hf⟩ := h
  refine ⟨fr, ?_, by simpa using hf⟩
  simp only [World.setCell, Array.getElem?_modify, h]
  simp
theorem Row.set_other (h : Row w b c t) {a : Addr} (ha : b ≠ a.block) (v : Value) : Row (w.setCell a v) b c t := by
  obtain ⟨fr, h, hf⟩ := h
  exact ⟨fr, by rw [Below.heap_setCell _ _ _ _ ha, h], hf⟩
theorem Row.drew (h : Row w b c t) : Row w.drew b c t := h
theorem Row.below (h : Row w b c t) {B : Nat} {w' : World} (hb : Below B w w') (hB : b < B) : Row w' b c t := by
  obtain ⟨fr, h, hf⟩ := h
  exact ⟨fr, by rw [hb.block b hB, h], hf⟩
theorem Row.ext (h : Row w b c t) {c' : List Value} (e : c = c') : Row w b c' t := e ▸ h
theorem Row.rangeMid {x y z : List Value} (h : Row w b (x ++ y ++ z) t) {off : Nat} (ho : off = x.length) : w.rangeAt b off y := by
  intro j v hv
  subst ho
  refine h.cell ?_
  have hj := (List.getElem?_eq_some_iff.1 hv).1
  rw [List.append_assoc, List.getElem?_append_right (by omega), Nat.add_sub_cancel_left, List.getElem?_append_left hj, hv]
theorem Row.range {x z : List Value} (h : Row w b (x ++ z) t) : w.rangeAt b 0 x := Row.rangeMid (x := []) (y := x) (z := z) (by simpa using h) rfl
end

section
variable {P : Program} {ops : Array Oper} {rest : List Oper} {o : Oper} {a : Act} {w : World} {Q : Exit → Act → World → Prop}

theorem wpList_alloc_one (ty : TypeId) (z : Value) (hz : ∀ w, (zeroValue ty).run P w = .ok z w) (h1 : z.oneCell' = true) (d : Option Tmp)
    (hg : o.guard = none) (ho : o.op = .alloc ty) (hd : o.dst = d)
    (h : ∀ n w', w.heap.size ≤ n → Blk w' n [z] ty → Below n w w' → n < w'.heap.size → wpList P ops Q rest (a.put d (.pointer (some ⟨n, 0, none⟩))) w') : wpList P ops Q (o :: rest) a w := by
  subst hd
  refine wpList_plain hg fun K hK => ?_
  unfold Oper.wp execOp
  have hc : z.cells = [z].toArray := by cases z <;> first | rfl | simp [Value.oneCell'] at h1
  simp only [ho, Instr.alloc, Sem.run_bind, hz, Result.andThen_ok, newVar, newRow, hc, run_newObj, Sem.run_pure]
  exact hK _ _ (h _ _ (Nat.le_refl _) (Blk.new w [z] ty) ((Below.refl _ _).alloc (Nat.le_refl _) _) (by simp))

theorem wpList_box_one (ty : TypeId) (x : Operand) (z : Value) (h1 : z.oneCell' = true) (d : Option Tmp)
    (hg : o.guard = none) (ho : o.op = .box ty x) (hd : o.dst = d) (hx : a.eval x = z)
    (h : ∀ n w', w.heap.size ≤ n → Blk w' n [z] ty → Below n w w' → n < w'.heap.size → wpList P ops Q rest (a.put d (.pointer (some ⟨n, 0, none⟩))) w') : wpList P ops Q (o :: rest) a w := by
  subst hd
  refine wpList_plain hg fun K hK => ?_
  unfold Oper.wp execOp
  have hc : z.cells = [z].toArray := by cases z <;> first | rfl | simp [Value.oneCell'] at h1
  simp only [ho, hx, Instr.box, Sem.run_bind, Result.andThen_ok, newVar, newRow, hc, run_newObj, Sem.run_pure]
  exact hK _ _ (h _ _ (Nat.le_refl _) (Blk.new w [z] ty) ((Below.refl _ _).alloc (Nat.le_refl _) _) (by simp))

theorem wpList_slice_new (t e : TypeId) (len : Nat) (parts : Array (Nat × Operand)) (cells : List Value) (z : Value) (sz byt : Nat) (d : Option Tmp)
    (hu : P.underlying t = some (.slice e)) (hi : (P.info? e).map (fun i => (i.zero, i.size, i.bytes)) = some (some z, sz, byt)) (hsm : len * sz ≤ 16777216) (hpos : 0 < len * sz)
    (hg : o.guard = none) (ho : o.op = .buildSlice t len parts) (hd : o.dst = d)
    (hf : Instr.fill (fun i => some (i * sz, sz)) ((Array.range (len * sz)).map (z.cells[· % z.cells.size]!)) (parts.map fun (i, x) => (i, a.eval x)).toList = some cells.toArray)
    (h : ∀ g w', w.heap.size ≤ g → Blk w' g cells e → Below g w w' → g < w'.heap.size → wpList P ops Q rest (a.put d (.slice (some ⟨g, 0, none⟩) len len)) w') : wpList P ops Q (o :: rest) a w := by
  subst hd
  cases hie : P.info? e with
  | none => simp [hie] at hi
  | some ie =>
    simp only [hie, Option.map_some, Option.some.injEq, Prod.mk.injEq] at hi
    obtain ⟨h1, h2, _⟩ := hi
    subst h2
    exact wpList_buildSlice hg t e len parts ho cells.toArray ie z hu hie h1 (by omega) (by omega) hf (h _ _ (Nat.le_refl _) (Blk.new w cells e) ((Below.refl _ _).alloc (Nat.le_refl _) _) (by simp))

theorem wpList_bytes_of (src dst e : TypeId) (x : Operand) (s : ByteArray) (d : Option Tmp)
    (hs : P.underlying src = some .string) (hd : P.underlying dst = some (.slice e)) (he : P.underlying e = some (.int .u8))
    (hg : o.guard = none) (ho : o.op = .convert src dst x) (hdst : o.dst = d) (hx : a.eval x = .string s)
    (h : ∀ g cap z w', w.heap.size ≤ g → Row w' g (bytesV s.data.toList ++ z) e → Below g w w' → g < w'.heap.size → s.size + z.length = cap → wpList P ops Q rest (a.put d (.slice (some ⟨g, 0, none⟩) s.size cap)) w') :
    wpList P ops Q (o :: rest) a w := by
  subst hdst
  refine wpList_plain hg fun K hK => ?_
  unfold Oper.wp execOp
  simp only [ho, hx, Sem.run_bind]
  rw [Lib.run_convert_string_bytes w src dst e s hs hd he]
  have hge := grownCap_ge w s.size 0 e
  have hcells : (Lib.bytesCells w e s) = (bytesV s.data.toList ++ List.replicate (grownCap w s.size 0 e - s.size) (Value.int .u8 0)).toArray := by
    apply Array.toList_inj.1
    simp [Lib.bytesCells, bytesV]
  refine hK _ _ (h w.heap.size _ (List.replicate (grownCap w s.size 0 e - s.size) (Value.int .u8 0)) _ (Nat.le_refl _) ?_ ?_ ?_ ?_)
  · refine ⟨((Lib.bytesCells w e s).size, (Lib.bytesCells w e s).size + 1), ?_, ?_⟩
    · rw [Lib.bytesWorld_at_new, hcells]
    · intro i hi
      rw [hcells, List.size_toArray]
      show ¬ (_ ≤ i ∧ i < _)
      omega
  · exact ⟨rfl, rfl, rfl, by rw [Lib.bytesWorld_size]; omega, fun k hk => Lib.bytesWorld_at_old w e s k hk⟩
  · rw [Lib.bytesWorld_size]; omega
  · rw [List.length_replicate]; omega
end
end Go.Proofs.YtppdboadjefieaaGreat
namespace Go.Proofs.YtppdboadjefieaaGreat
open Go Go.RowKit

section
variable {w w' : World} {base : Nat} {e : TypeId} {size : Nat} {v : Value} {n : Nat} {xs : List Value}
theorem below_grown (h : Below w.heap.size w w') : w.grownBy w' none := ⟨h.os, h.tape, h.output, h.size, fun k hk _ => h.block k hk⟩
theorem own_below (h : Below w.heap.size w w') (ho : w.ownsRow base e size v n xs) : w'.ownsRow base e size v n xs :=
  ho.kept (below_grown h) (by cases hv : v.ownBlock <;> simp)
theorem Blk.grown {row : Option Nat} {b : Nat} {c : List Value} {t : TypeId} (h : Blk w b c t) (hg : w.grownBy w' row) (hne : some b ≠ row) : Blk w' b c t := by
  have := h.lt
  unfold Blk at h ⊢
  rw [hg.block b this hne, h]
theorem own_ne (h : w.ownsRow base e size v n xs) {b : Nat} (hb : b < base) : some b ≠ v.ownBlock := by
  intro he
  have := (h.lt b he.symm).1
  omega
theorem below_own {W0 : World} {B : Nat} (hb : Below B W0 w) (h : w.ownsRow base e size v n xs) (hg : w.grownBy w' v.ownBlock) (hB : B ≤ base) (hs : B ≤ w.heap.size) : Below B W0 w' :=
  hb.trans ⟨hg.os, hg.tape, hg.output, hg.size, fun k hk => hg.block k (by omega) (own_ne h (by omega))⟩
theorem below_some {W0 : World} {B b : Nat} (hb : Below B W0 w) (hg : w.grownBy w' (some b)) (hB : B ≤ b) (hs : B ≤ w.heap.size) : Below B W0 w' :=
  hb.trans ⟨hg.os, hg.tape, hg.output, hg.size, fun k hk => hg.block k (by omega) (by intro h; injection h; omega)⟩
theorem grown_set (w : World) (b i : Nat) (v : Value) : w.grownBy (w.setCell ⟨b, i, none⟩ v) (some b) :=
  ⟨rfl, rfl, rfl, by simp [World.setCell], fun k _ hne => Below.heap_setCell _ _ _ _ (by intro h; exact hne (by rw [h]))⟩
theorem own_grown {b : Nat} (h : w.ownsRow base e size v n xs) (hg : w.grownBy w' (some b)) (hb : b < base) : w'.ownsRow base e size v n xs :=
  h.kept hg (.inr (fun he => own_ne h hb he.symm))
theorem own_set (h : w.ownsRow base e size v n xs) {b i : Nat} {u : Value} (hb : b < base) : (w.setCell ⟨b, i, none⟩ u).ownsRow base e size v n xs :=
  own_grown h (grown_set w b i u) hb
theorem own_base {base' : Nat} (h : w.ownsRow base e size v n xs) (hb : base' ≤ base) : w.ownsRow base' e size v n xs := by
  refine ⟨h.1, h.2.imp id ?_⟩
  rintro ⟨g, cap, cur, h1, h2, h3⟩
  exact ⟨g, cap, cur, h1, by omega, h3⟩
theorem cells_add {b : Nat} {c : List Value} {t : TypeId} (h : Blk w b c t) : ∀ (j : Nat) (u : Value), c[j]? = some u → w.cell? ((⟨b, 0, none⟩ : Addr).add j) = some u := by
  intro j u hu
  rw [Addr.add_mid, Nat.zero_add]
  exact h.cell hu
theorem own_split (h : w.ownsRow base e size v n xs) (hn : 0 < n) : ∃ g cap z, v = .slice (some ⟨g, 0, none⟩) n cap ∧ n ≤ cap ∧ base ≤ g ∧ Blk w g (xs ++ z) e := by
  rcases h.2 with ⟨_, h0⟩ | ⟨g, cap, cur, rfl, hb, hg, hc, _, _, ht⟩
  · omega
  · refine ⟨g, cap, cur.toList.drop (n * size), rfl, hc, hb, ?_⟩
    unfold Blk
    rw [hg, ← ht, List.take_append_drop]
theorem own_nil (h : w.ownsRow base e size v 0 xs) : ∃ (p : Option Addr) (c : Nat), v = .slice p 0 c := by
  rcases h.2 with ⟨h0, _⟩ | ⟨g, cap, cur, rfl, _⟩
  · exact ⟨_, _, h0⟩
  · exact ⟨_, _, rfl⟩
theorem own_shape (h : w.ownsRow base e size v n xs) : ∃ (p : Option Addr) (c : Nat), v = .slice p n c := by
  rcases h.2 with ⟨h0, h1⟩ | ⟨g, cap, cur, rfl, _⟩
  · subst h1; exact ⟨_, _, h0⟩
  · exact ⟨_, _, rfl⟩
end
end Go.Proofs.YtppdboadjefieaaGreat
namespace Go.Proofs.YtppdboadjefieaaGreat
open Go

section
variable {P : Program} {w : World} {d : Nat} {xs ys : Array Value} {f : Field} {fs : List Field} {r : Bool}
theorem eqf_nil : (Op.eqFields d xs ys []).run P w = .ok true w := by simp [Op.eqFields]
theorem eqf_int {k k' : IntKind} {a b : Int} (hn : f.name ≠ "_") (hx : (part f.type xs f.offset).run P w = .ok (.int k a) w) (hy : (part f.type ys f.offset).run P w = .ok (.int k b) w)
    (hu : P.underlying f.type = some (.int k')) (hr : (Op.eqFields (d + 1) xs ys fs).run P w = .ok r w) : (Op.eqFields (d + 1) xs ys (f :: fs)).run P w = .ok (a == b && r) w := by
  simp only [Op.eqFields, ne_eq, hn, not_false_eq_true, if_true, Sem.run_bind, hx, hy, Result.andThen_ok, run_equalIn_int w d f.type k k' a b hu]
  cases h : a == b <;> simp [hr]
theorem beq_bytes (a b : ByteArray) : (a == b) = decide (a = b) := by
  have h : (a == b) = (a.data == b.data) := by obtain ⟨x⟩ := a; obtain ⟨y⟩ := b; rfl
  rw [h, Bool.eq_iff_iff]
  obtain ⟨x⟩ := a
  obtain ⟨y⟩ := b
  simp
theorem eqf_str {a b : ByteArray} (hn : f.name ≠ "_") (hx : (part f.type xs f.offset).run P w = .ok (.string a) w) (hy : (part f.type ys f.offset).run P w = .ok (.string b) w)
    (hu : P.underlying f.type = some .string) (hr : (Op.eqFields (d + 1) xs ys fs).run P w = .ok r w) : (Op.eqFields (d + 1) xs ys (f :: fs)).run P w = .ok (decide (a = b) && r) w := by
  simp only [Op.eqFields, ne_eq, hn, not_false_eq_true, if_true, Sem.run_bind, hx, hy, Result.andThen_ok, run_equalIn_string w d f.type a b hu, ← beq_toListBytes, beq_bytes]
  cases h : decide (a = b) <;> simp [hr]
theorem eqf_agg {us vs : Array Value} {q : Bool} (hn : f.name ≠ "_") (hx : (part f.type xs f.offset).run P w = .ok (.agg us) w) (hy : (part f.type ys f.offset).run P w = .ok (.agg vs) w)
    (hq : (Op.equalIn d f.type (.agg us) (.agg vs)).run P w = .ok q w) (hr : (Op.eqFields d xs ys fs).run P w = .ok r w) : (Op.eqFields d xs ys (f :: fs)).run P w = .ok (q && r) w := by
  simp only [Op.eqFields, ne_eq, hn, not_false_eq_true, if_true, Sem.run_bind, hx, hy, Result.andThen_ok, hq]
  cases q <;> simp [hr]
theorem eq_struct {t : TypeId} {gs : Array Field} (hu : P.underlying t = some (.struct gs)) (hp : P.stoodInHeld t = false) (h : (Op.eqFields d xs ys gs.toList).run P w = .ok r w) : (Op.equalIn (d + 1) t (.agg xs) (.agg ys)).run P w = .ok r w := by
  have hf : P.fieldsOf t = gs := by unfold Program.fieldsOf; rw [hu]
  rw [run_equalIn_agg w d t xs ys (by rw [hf]; exact hu) hp, hf]
  exact h
end

section
variable {P : Program} {ops : Array Oper} {rest : List Oper} {o : Oper} {a : Act} {w : World} {Q : Exit → Act → World → Prop}
theorem wpList_eq_agg (t t' : TypeId) (x y : Operand) (xs ys : Array Value) (r : Bool) (d : Option Tmp)
    (hm : P.eqGuardType P.depth t = false) (hq : (Op.equalIn 10000 t (.agg xs) (.agg ys)).run P w = .ok r w)
    (hg : Region.wanted o (yielded ops a.tmps) = true) (ho : o.op = .binOp .eql t x y t') (hd : o.dst = d) (hx : a.eval x = .agg xs) (hy : a.eval y = .agg ys)
    (h : wpList P ops Q rest (a.put d (.bool r)) w) : wpList P ops Q (o :: rest) a w := by
  subst hd
  unfold wpList
  rw [if_pos hg]
  refine .inl ?_
  unfold Oper.wp execOp
  simp only [ho, hx, hy, Sem.run_bind, run_eqGuard_agg w _ t x y xs ys hm, Result.andThen_ok, run_eql_struct, hq, Sem.run_pure]
  exact h
theorem wpList_neq_agg (t t' : TypeId) (x y : Operand) (xs ys : Array Value) (r : Bool) (d : Option Tmp)
    (hm : P.eqGuardType P.depth t = false) (hq : (Op.equalIn 10000 t (.agg xs) (.agg ys)).run P w = .ok r w)
    (hg : Region.wanted o (yielded ops a.tmps) = true) (ho : o.op = .binOp .neq t x y t') (hd : o.dst = d) (hx : a.eval x = .agg xs) (hy : a.eval y = .agg ys)
    (h : wpList P ops Q rest (a.put d (.bool (!r))) w) : wpList P ops Q (o :: rest) a w := by
  subst hd
  unfold wpList
  rw [if_pos hg]
  refine .inl ?_
  unfold Oper.wp execOp
  simp only [ho, hx, hy, Sem.run_bind, run_eqGuard_agg w _ t x y xs ys hm, Result.andThen_ok, run_neq_struct, hq, Sem.run_pure]
  exact h
end
end Go.Proofs.YtppdboadjefieaaGreat
namespace Go.Proofs.YtppdboadjefieaaGreat
open Go Go.RowKit

theorem repeatL_zero (n : Nat) : Lib.repeatL [0] n = List.replicate n (0 : UInt8) := by
  induction n with
  | zero => rfl
  | succ n ih => rw [List.replicate_succ, ← ih]; rfl

theorem repeat0 (c : Nat) (w : World) (hc : c ≤ 1073741824) :
    Calls Tryz.prog 48 #[.string ⟨#[0]⟩, .int .i64 c] w fun e w' => ∃ r, e = .returned (.string r) ∧ Txt r (List.replicate c 0) ∧ Below w.heap.size w w' := by
  have hs : (⟨#[0]⟩ : ByteArray).size = 1 := rfl
  refine (Tryz.strings_Repeat ⟨#[0]⟩ c w (by omega) (by rw [hs]; omega)).mono ?_
  rintro e w' ⟨rfl, hb⟩
  exact ⟨_, rfl, (Txt.mk _).cast (repeatL_zero c), hb⟩

theorem clone_walk (s : ByteArray) (w : World) (hs : s.size ≤ 281474976710656) :
    Calls Tryz.prog 384 #[.string s] w fun e w' => e = .returned (.string s) ∧ Below w.heap.size w w' := by
  go_enter Tryz.func384, Tryz.ntmps384
  go_wp2_with fail
  refine (Tryz.stringslite_Clone s w hs).mono ?_
  rintro e w' ⟨rfl, hb⟩
  go_wp2_with fail
  go_ret
  exact ⟨rfl, hb⟩
end Go.Proofs.YtppdboadjefieaaGreat
namespace Go.Proofs.YtppdboadjefieaaGreat
open Go

theorem bt {a b c : World} (h : RowKit.Below a.heap.size a b) (k : RowKit.Below b.heap.size b c) : RowKit.Below a.heap.size a c := h.trans (k.mono h.size)

def Ends (ok : Prop) (l : List UInt8) (c : Int) (e : Ending) : Prop :=
  (ok ∧ ∃ r, e = .returned (.tuple #[.string r, .int .i64 0]) ∧ Txt r l) ∨ (¬ ok ∧ e = .returned (.tuple #[.string ⟨#[]⟩, .int .i64 c]))
theorem Ends.yes {ok : Prop} {l : List UInt8} {c : Int} {e : Ending} (h : Ends ok l c e) (ho : ok) : ∃ r, e = .returned (.tuple #[.string r, .int .i64 0]) ∧ Txt r l := by
  rcases h with ⟨_, h⟩ | ⟨h, _⟩
  · exact h
  · exact absurd ho h
theorem Ends.no {ok : Prop} {l : List UInt8} {c : Int} {e : Ending} (h : Ends ok l c e) (ho : ¬ ok) : e = .returned (.tuple #[.string ⟨#[]⟩, .int .i64 c]) := by
  rcases h with ⟨h, _⟩ | ⟨_, h⟩
  · exact absurd h ho
  · exact h
end Go.Proofs.YtppdboadjefieaaGreat
namespace Go.Proofs.YtppdboadjefieaaGreat
open Go

def hkey (k : List UInt8) : List UInt8 := if 64 < k.length then sha k ++ List.replicate 32 0 else k ++ List.replicate (64 - k.length) 0
def heldL (k : List UInt8) (x : UInt8) : List UInt8 := (hkey k).map fun c => c ^^^ x
def hinner (k m : List UInt8) : List UInt8 := heldL k 0x36 ++ m
def houter (k m : List UInt8) : List UInt8 := heldL k 0x5c ++ sha (hinner k m)
def mac (k m : List UInt8) : List UInt8 := sha (houter k m)

theorem hkey_length (k : List UInt8) : (hkey k).length = 64 := by
  unfold hkey; split
  · simp [sha_length]
  · simp; omega
theorem heldL_length (k : List UInt8) (x : UInt8) : (heldL k x).length = 64 := by simp [heldL, hkey_length]
theorem mac_length (k m : List UInt8) : (mac k m).length = 32 := sha_length _
theorem houter_length (k m : List UInt8) : (houter k m).length = 96 := by simp [houter, heldL_length, sha_length]

example : (mac "key".toUTF8.data.toList "The quick brown fox jumps over the lazy dog".toUTF8.data.toList).take 8 = [0xf7, 0xbc, 0x83, 0xf4, 0x30, 0x53, 0x84, 0x24] := by decide +kernel
end Go.Proofs.YtppdboadjefieaaGreat
namespace Go.Proofs.YtppdboadjefieaaGreat
open Go

def textL (s : List UInt8) : List UInt8 := beBytes 4 s.length ++ s
def saidL (label : List UInt8) (ctx : List Nat) : List UInt8 := textL label ++ [UInt8.ofNat ctx.length] ++ ctx.flatMap (beBytes 8)
def saidOk (label : List UInt8) (ctx : List Int) : Bool := decide (1 ≤ label.length) && decide (label.length ≤ 16) && decide (ctx.length ≤ 8) && ctx.all (fun n => decide (0 ≤ n))

def piece (master said : List UInt8) (was : List UInt8) (i : Nat) : List UInt8 := mac master (was ++ said ++ [UInt8.ofNat (i + 1)])
def pieceAt (master said : List UInt8) : Nat → List UInt8
  | 0 => []
  | k + 1 => piece master said (pieceAt master said k) k
def pieces (master said : List UInt8) : Nat → List UInt8
  | 0 => []
  | k + 1 => pieces master said k ++ pieceAt master said (k + 1)
def longL (master label : List UInt8) (n : Nat) : List UInt8 := (pieces master (saidL label []) ((n + 31) / 32)).take n

theorem textL_length (s : List UInt8) : (textL s).length = 4 + s.length := by simp [textL, beBytes_length]
theorem flatMap8_length (ctx : List Nat) : (ctx.flatMap (beBytes 8)).length = 8 * ctx.length := by
  induction ctx with
  | nil => rfl
  | cons a r ih => simp [List.flatMap_cons, beBytes_length, ih]; omega
theorem saidL_length (label : List UInt8) (ctx : List Nat) : (saidL label ctx).length = 5 + label.length + 8 * ctx.length := by
  unfold saidL; rw [List.length_append, List.length_append, textL_length, flatMap8_length, List.length_singleton]; omega
theorem pieceAt_length (master said : List UInt8) (k : Nat) : (pieceAt master said (k + 1)).length = 32 := mac_length _ _
theorem pieces_length (master said : List UInt8) (k : Nat) : (pieces master said k).length = 32 * k := by
  induction k with
  | zero => rfl
  | succ k ih => simp [pieces, ih, pieceAt_length]; omega
theorem longL_length (master label : List UInt8) (n : Nat) : (longL master label n).length = n := by
  unfold longL; rw [List.length_take, pieces_length]; omega
end Go.Proofs.YtppdboadjefieaaGreat
namespace Go.Proofs.YtppdboadjefieaaGreat
open Go

def nameByte (c : UInt8) : Bool := (decide (97 ≤ c.toNat) && decide (c.toNat ≤ 122)) || (decide (48 ≤ c.toNat) && decide (c.toNat ≤ 57))
def nameOk (l : List UInt8) : Bool := decide (1 ≤ l.length) && decide (l.length ≤ 16) && l.all nameByte

structure Rec where
  kind : Int
  epoch : Int
  time : Int
  count : Int
  target : Int
  till : Int
  root : ByteArray
  name : ByteArray
def Rec.cells (r : Rec) : List Value := [.int .i64 r.kind, .int .i64 r.epoch, .int .i64 r.time, .int .i64 r.count, .int .i64 r.target, .int .i64 r.till, .string r.root, .string r.name]
def Rec.v (r : Rec) : Value := .agg #[.int .i64 r.kind, .int .i64 r.epoch, .int .i64 r.time, .int .i64 r.count, .int .i64 r.target, .int .i64 r.till, .string r.root, .string r.name]
def Rec.zero : Rec := ⟨0, 0, 0, 0, 0, 0, ⟨#[]⟩, ⟨#[]⟩⟩

def recKind (r : Rec) : Bool :=
  if r.kind = 1 then decide (0 ≤ r.count) && decide (r.count ≤ 4096) && decide (r.root.size = 32) && decide (r.target = 0) && decide (r.till = 0) && decide (r.name.size = 0)
  else if r.kind = 2 ∨ r.kind = 5 then decide (0 ≤ r.target) && decide (r.target < r.epoch) && decide (0 ≤ r.till) && decide (r.till ≤ 1099511627776) && decide (r.count = 0) && decide (r.root.size = 0) && decide (r.name.size = 0)
  else if r.kind = 3 then decide (0 ≤ r.target) && decide (r.target < r.epoch) && nameOk r.name.data.toList && decide (r.till = 0) && decide (r.count = 0) && decide (r.root.size = 0)
  else if r.kind = 4 then nameOk r.name.data.toList && decide (r.target = 0) && decide (r.till = 0) && decide (r.count = 0) && decide (r.root.size = 0)
  else false
def recOk (r : Rec) : Bool := decide (0 ≤ r.epoch) && decide (r.epoch ≤ 4294967295) && decide (0 ≤ r.time) && decide (r.time ≤ 1099511627776) && recKind r
end Go.Proofs.YtppdboadjefieaaGreat
namespace Go.Proofs.YtppdboadjefieaaGreat
open Go Go.Proofs Go.Shelf Go.RowKit

def ren1 : Go.Shelf.Ren := ⟨fun | 166 => 117 | 240 => 207 | 276 => 299 | n => n, fun | 37 => 121 | 70 => 196 | 72 => 198 | 75 => 201 | 80 => 143 | 164 => 359 | n => n, fun n => n⟩
theorem lays166 : Go.Proofs.Lays.n166 Tryz.prog ren1 := {
  mixed := by kernel_rfl
  f166 := Tryz.func117.trans (congrArg some (by kernel_rfl))
  f240 := Tryz.func207.trans (congrArg some (by kernel_rfl))
  f276 := Tryz.func299.trans (congrArg some (by kernel_rfl))
  t0 := Tryz.underlying0
  a0 := Tryz.isAgg0
  z0 := Tryz.sizeOf0
  v0 := Tryz.zeroValue0
  t3 := Tryz.underlying3
  a3 := Tryz.isAgg3
  z3 := Tryz.sizeOf3
  v3 := Tryz.zeroValue3
  t4 := Tryz.underlying4
  a4 := Tryz.isAgg4
  z4 := Tryz.sizeOf4
  v4 := Tryz.zeroValue4
  t9 := Tryz.underlying9
  a9 := Tryz.isAgg9
  z9 := Tryz.sizeOf9
  v9 := Tryz.zeroValue9
  t20 := Tryz.underlying20
  a20 := Tryz.isAgg20
  z20 := Tryz.sizeOf20
  v20 := Tryz.zeroValue20
  t37 := Tryz.underlying121
  a37 := Tryz.isAgg121
  z37 := Tryz.sizeOf121
  v37 := Tryz.zeroValue121
  t70 := Tryz.underlying196
  a70 := Tryz.isAgg196
  z70 := Tryz.sizeOf196
  v70 := Tryz.zeroValue196
  t72 := Tryz.underlying198
  a72 := Tryz.isAgg198
  z72 := Tryz.sizeOf198
  v72 := Tryz.zeroValue198
  t75 := Tryz.underlying201
  a75 := Tryz.isAgg201
  z75 := Tryz.sizeOf201
  v75 := Tryz.zeroValue201
  t164 := Tryz.underlying359
  a164 := Tryz.isAgg359
  z164 := Tryz.sizeOf359
  v164 := Tryz.zeroValue359 }
theorem extra1 : Builder.Extra Tryz.prog ren1 := {
  sizeBuilder := by kernel_rfl
  liesBuilder := by kernel_rfl
  t5 := Tryz.underlying5
  a5 := Tryz.isAgg5
  z5 := Tryz.sizeOf5
  v5 := Tryz.zeroValue5
  infoByte := by kernel_rfl
  cellsByte := by kernel_rfl
  sizeByte := by kernel_rfl
  neB5 := by decide }

def ren2 : Go.Shelf.Ren := ⟨fun | 167 => 330 | 240 => 207 | 276 => 299 | n => n, fun | 37 => 121 | 70 => 196 | 72 => 198 | 75 => 201 | 80 => 143 | 164 => 359 | n => n, fun n => n⟩
theorem lays167 : Go.Proofs.Lays.n167 Tryz.prog ren2 := {
  mixed := by kernel_rfl
  f167 := Tryz.func330.trans (congrArg some (by kernel_rfl))
  f240 := Tryz.func207.trans (congrArg some (by kernel_rfl))
  f276 := Tryz.func299.trans (congrArg some (by kernel_rfl))
  t0 := Tryz.underlying0
  a0 := Tryz.isAgg0
  z0 := Tryz.sizeOf0
  v0 := Tryz.zeroValue0
  t4 := Tryz.underlying4
  a4 := Tryz.isAgg4
  z4 := Tryz.sizeOf4
  v4 := Tryz.zeroValue4
  t5 := Tryz.underlying5
  a5 := Tryz.isAgg5
  z5 := Tryz.sizeOf5
  v5 := Tryz.zeroValue5
  t9 := Tryz.underlying9
  a9 := Tryz.isAgg9
  z9 := Tryz.sizeOf9
  v9 := Tryz.zeroValue9
  t20 := Tryz.underlying20
  a20 := Tryz.isAgg20
  z20 := Tryz.sizeOf20
  v20 := Tryz.zeroValue20
  t37 := Tryz.underlying121
  a37 := Tryz.isAgg121
  z37 := Tryz.sizeOf121
  v37 := Tryz.zeroValue121
  t70 := Tryz.underlying196
  a70 := Tryz.isAgg196
  z70 := Tryz.sizeOf196
  v70 := Tryz.zeroValue196
  t72 := Tryz.underlying198
  a72 := Tryz.isAgg198
  z72 := Tryz.sizeOf198
  v72 := Tryz.zeroValue198
  t75 := Tryz.underlying201
  a75 := Tryz.isAgg201
  z75 := Tryz.sizeOf201
  v75 := Tryz.zeroValue201
  t164 := Tryz.underlying359
  a164 := Tryz.isAgg359
  z164 := Tryz.sizeOf359
  v164 := Tryz.zeroValue359 }
theorem extra2 : Builder.Extra Tryz.prog ren2 := {
  sizeBuilder := by kernel_rfl
  liesBuilder := by kernel_rfl
  t5 := Tryz.underlying5
  a5 := Tryz.isAgg5
  z5 := Tryz.sizeOf5
  v5 := Tryz.zeroValue5
  infoByte := by kernel_rfl
  cellsByte := by kernel_rfl
  sizeByte := by kernel_rfl
  neB5 := by decide }

theorem writeString (B b : Nat) (bs : List Value) (s : ByteArray) (w : World) (h : Lib.IsBuilder 198 5 B b bs w) (hl : bs.length + s.size ≤ 140737488355328) (hB : B ≤ w.heap.size) :
    Calls Tryz.prog 117 #[.pointer (some ⟨b, 0, none⟩), .string s] w fun e w' => e = .returned (.tuple #[.int .i64 s.size, .nilIface]) ∧ Lib.BuilderAt 198 5 B b (.pointer (some ⟨b, 0, none⟩)) (bs ++ Lib.strCells s) w' ∧ Below B w w' :=
  Any.Builder_WriteString lays166 extra1 B b bs s w h hl hB
theorem writeByte (B b : Nat) (bs : List Value) (c : Int) (w : World) (h : Lib.IsBuilder 198 5 B b bs w) (hl : bs.length + 1 ≤ 140737488355328) (hB : B ≤ w.heap.size) :
    Calls Tryz.prog 330 #[.pointer (some ⟨b, 0, none⟩), .int .u8 c] w fun e w' => e = .returned .nilIface ∧ Lib.BuilderAt 198 5 B b (.pointer (some ⟨b, 0, none⟩)) (bs ++ [.int .u8 c]) w' ∧ Below B w w' :=
  Any.Builder_WriteByte lays167 extra2 B b bs c w h hl hB
end Go.Proofs.YtppdboadjefieaaGreat
namespace Go.Proofs.YtppdboadjefieaaGreat
open Go Go.RowKit

def Bld (w : World) (b : Nat) (l : List UInt8) : Prop := Lib.IsBuilder 198 5 b b (Lib.byteCells l) w

theorem zeroBuilder (w : World) : Sem.run Tryz.prog (zeroValue 198) w = .ok (.agg ([.pointer none, .slice none 0 0] : List Value).toArray) w := by kernel_rfl

theorem Bld.new {w : World} {b : Nat} (h : Blk w b [.pointer none, .slice none 0 0] 198) : Bld w b [] :=
  .inl ⟨Nat.le_refl _, .slice none 0 0, h, World.ownsRow_nil _ _ _ _, by simp [Value.ownBlock]⟩

theorem builderAt_below {T e : TypeId} {B b : Nat} {p : Value} {bs : List Value} {w w' : World} (h : Lib.BuilderAt T e B b p bs w) (hb : Below w.heap.size w w') : Lib.BuilderAt T e B b p bs w' := by
  have hlt := h.lt
  obtain ⟨hB, v, hv, hown, hne⟩ := h
  refine ⟨hB, v, by rw [hb.block b hlt, hv], ?_, hne⟩
  refine ⟨hown.1, ?_⟩
  rcases hown.2 with hn | ⟨g, cap, cur, rfl, hg, hgg, rest⟩
  · exact .inl hn
  · refine .inr ⟨g, cap, cur, rfl, hg, ?_, rest⟩
    rw [hb.block g (Array.getElem?_eq_some_iff.1 hgg).1]
    exact hgg
theorem Bld.below {w w' : World} {b : Nat} {l : List UInt8} (h : Bld w b l) (hb : Below w.heap.size w w') : Bld w' b l :=
  h.imp (fun h => builderAt_below h hb) (fun h => builderAt_below h hb)
theorem Bld.lt {w : World} {b : Nat} {l : List UInt8} (h : Bld w b l) : b < w.heap.size := by
  rcases h with h | h <;> exact h.lt

theorem byteCells_append (a b : List UInt8) : Lib.byteCells (a ++ b) = Lib.byteCells a ++ Lib.byteCells b := by simp [Lib.byteCells]

theorem bld_writeString (b : Nat) (l : List UInt8) (s : ByteArray) (w : World) (h : Bld w b l) (hl : l.length + s.size ≤ 140737488355328) :
    Calls Tryz.prog 117 #[.pointer (some ⟨b, 0, none⟩), .string s] w fun e w' => e = .returned (.tuple #[.int .i64 s.size, .nilIface]) ∧ Bld w' b (l ++ s.data.toList) ∧ Below b w w' := by
  refine (writeString b b _ s w h (by rw [Lib.byteCells_length]; exact hl) (Nat.le_of_lt h.lt)).mono ?_
  rintro e w' ⟨rfl, hb, hbel⟩
  refine ⟨rfl, .inr ?_, hbel⟩
  rw [byteCells_append]
  exact hb

theorem bld_writeByte (b : Nat) (l : List UInt8) (c : Int) (w : World) (h : Bld w b l) (h0 : 0 ≤ c) (h1 : c < 256) (hl : l.length + 1 ≤ 140737488355328) :
    Calls Tryz.prog 330 #[.pointer (some ⟨b, 0, none⟩), .int .u8 c] w fun e w' => e = .returned .nilIface ∧ Bld w' b (l ++ [UInt8.ofNat c.toNat]) ∧ Below b w w' := by
  refine (writeByte b b _ c w h (by rw [Lib.byteCells_length]; exact hl) (Nat.le_of_lt h.lt)).mono ?_
  rintro e w' ⟨rfl, hb, hbel⟩
  refine ⟨rfl, .inr ?_, hbel⟩
  have e : Lib.byteCells (l ++ [UInt8.ofNat c.toNat]) = Lib.byteCells l ++ [.int .u8 c] := by
    rw [byteCells_append]
    congr 1
    simp [Lib.byteCells]
    omega
  rw [e]
  exact hb

theorem bld_string (b : Nat) (l : List UInt8) (w : World) (h : Bld w b l) :
    Calls Tryz.prog 119 #[.pointer (some ⟨b, 0, none⟩)] w fun e w' => ∃ r, e = .returned (.string r) ∧ Txt r l ∧ Below b w w' := by
  refine (Tryz.Builder_String_any b b l w h (Nat.le_of_lt h.lt)).mono ?_
  rintro e w' ⟨rfl, hb⟩
  exact ⟨_, rfl, Txt.mk _, hb⟩
end Go.Proofs.YtppdboadjefieaaGreat

