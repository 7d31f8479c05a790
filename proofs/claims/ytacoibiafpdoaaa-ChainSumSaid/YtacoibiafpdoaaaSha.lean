/- Plain SHA-256 over lists of bytes and natural numbers, and small laws on it. No program in sight. -/
import Derived.WalkKit
namespace Go.Proofs.Ytacoibiafpdoaaa
open Go

/-- A number of 32 bits turned to the right. -/
def rotr (x n : Nat) : Nat := (x >>> n ||| x <<< (32 - n)) % 4294967296
def sg0 (x : Nat) : Nat := rotr x 7 ^^^ rotr x 18 ^^^ x / 8
def sg1 (x : Nat) : Nat := rotr x 17 ^^^ rotr x 19 ^^^ x / 1024
def bg0 (a : Nat) : Nat := rotr a 2 ^^^ rotr a 13 ^^^ rotr a 22
def bg1 (e : Nat) : Nat := rotr e 6 ^^^ rotr e 11 ^^^ rotr e 25
def chs (e f g : Nat) : Nat := (e &&& f) ||| ((4294967295 - e) &&& g)
def maj (a b c : Nat) : Nat := (a &&& b) ||| (a &&& c) ||| (b &&& c)

/-- The number that four bytes are. -/
def be32 (l : List UInt8) (i : Nat) : Nat :=
  (l.getD (4 * i) 0).toNat * 16777216 + (l.getD (4 * i + 1) 0).toNat * 65536 + (l.getD (4 * i + 2) 0).toNat * 256 + (l.getD (4 * i + 3) 0).toNat

/-- The next word of a block's words. -/
def nextWord (l : List UInt8) (ws : List Nat) : Nat :=
  if ws.length < 16 then be32 l ws.length
  else (ws.getD (ws.length - 16) 0 + sg0 (ws.getD (ws.length - 15) 0) + ws.getD (ws.length - 7) 0 + sg1 (ws.getD (ws.length - 2) 0)) % 4294967296

/-- The first k words of a block. -/
def wordsTo (l : List UInt8) : Nat → List Nat
  | 0 => []
  | k + 1 => wordsTo l k ++ [nextWord l (wordsTo l k)]

def roundK : List Nat := [
  0x428a2f98, 0x71374491, 0xb5c0fbcf, 0xe9b5dba5, 0x3956c25b, 0x59f111f1, 0x923f82a4, 0xab1c5ed5,
  0xd807aa98, 0x12835b01, 0x243185be, 0x550c7dc3, 0x72be5d74, 0x80deb1fe, 0x9bdc06a7, 0xc19bf174,
  0xe49b69c1, 0xefbe4786, 0x0fc19dc6, 0x240ca1cc, 0x2de92c6f, 0x4a7484aa, 0x5cb0a9dc, 0x76f988da,
  0x983e5152, 0xa831c66d, 0xb00327c8, 0xbf597fc7, 0xc6e00bf3, 0xd5a79147, 0x06ca6351, 0x14292967,
  0x27b70a85, 0x2e1b2138, 0x4d2c6dfc, 0x53380d13, 0x650a7354, 0x766a0abb, 0x81c2c92e, 0x92722c85,
  0xa2bfe8a1, 0xa81a664b, 0xc24b8b70, 0xc76c51a3, 0xd192e819, 0xd6990624, 0xf40e3585, 0x106aa070,
  0x19a4c116, 0x1e376c08, 0x2748774c, 0x34b0bcb5, 0x391c0cb3, 0x4ed8aa4a, 0x5b9cca4f, 0x682e6ff3,
  0x748f82ee, 0x78a5636f, 0x84c87814, 0x8cc70208, 0x90befffa, 0xa4506ceb, 0xbef9a3f7, 0xc67178f2]

/-- Eight numbers. -/
structure S8 where
  a : Nat
  b : Nat
  c : Nat
  d : Nat
  e : Nat
  f : Nat
  g : Nat
  h : Nat

def S8.first : S8 := ⟨0x6a09e667, 0xbb67ae85, 0x3c6ef372, 0xa54ff53a, 0x510e527f, 0x9b05688c, 0x1f83d9ab, 0x5be0cd19⟩

def S8.l (s : S8) : List Nat := [s.a, s.b, s.c, s.d, s.e, s.f, s.g, s.h]

def tOf (s : S8) (k w : Nat) : Nat := s.h + bg1 s.e + chs s.e s.f s.g + k + w
def uOf (s : S8) : Nat := bg0 s.a + maj s.a s.b s.c

/-- One round. -/
def rnd (s : S8) (k w : Nat) : S8 :=
  ⟨(tOf s k w + uOf s) % 4294967296, s.a, s.b, s.c, (s.d + tOf s k w) % 4294967296, s.e, s.f, s.g⟩

/-- The first n rounds. -/
def rnds (ws : List Nat) (s : S8) : Nat → S8
  | 0 => s
  | n + 1 => rnd (rnds ws s n) (roundK.getD n 0) (ws.getD n 0)

def S8.add (x y : S8) : S8 :=
  ⟨(x.a + y.a) % 4294967296, (x.b + y.b) % 4294967296, (x.c + y.c) % 4294967296, (x.d + y.d) % 4294967296,
   (x.e + y.e) % 4294967296, (x.f + y.f) % 4294967296, (x.g + y.g) % 4294967296, (x.h + y.h) % 4294967296⟩

/-- The state that a block turns one to. -/
def stp (s : S8) (blk : List UInt8) : S8 := (rnds (wordsTo blk 64) s 64).add s

/-- n blocks. -/
def blocks : Nat → S8 → List UInt8 → S8
  | 0, s, _ => s
  | n + 1, s, l => blocks n (stp s (l.take 64)) (l.drop 64)

/-- A number's bytes, the highest first. -/
def beBytes : Nat → Nat → List UInt8
  | 0, _ => []
  | w + 1, n => beBytes w (n / 256) ++ [UInt8.ofNat (n % 256)]

def padL (n : Nat) : List UInt8 := 128 :: (List.replicate (63 - (n + 8) % 64) 0 ++ beBytes 8 (8 * n))

def S8.text (s : S8) : List UInt8 :=
  beBytes 4 s.a ++ beBytes 4 s.b ++ beBytes 4 s.c ++ beBytes 4 s.d ++ beBytes 4 s.e ++ beBytes 4 s.f ++ beBytes 4 s.g ++ beBytes 4 s.h

/-- SHA-256. -/
def sha (m : List UInt8) : List UInt8 := (blocks ((m ++ padL m.length).length / 64) S8.first (m ++ padL m.length)).text

theorem beBytes_length (w n : Nat) : (beBytes w n).length = w := by
  induction w generalizing n with
  | zero => rfl
  | succ w ih => simp [beBytes, ih]

theorem S8.text_length (s : S8) : s.text.length = 32 := by simp [S8.text, beBytes_length]
theorem sha_length (m : List UInt8) : (sha m).length = 32 := S8.text_length _

theorem padL_length (n : Nat) : (padL n).length = 72 - (n + 8) % 64 := by
  simp [padL, beBytes_length]; omega

theorem wordsTo_length (l : List UInt8) (k : Nat) : (wordsTo l k).length = k := by
  induction k with
  | zero => rfl
  | succ k ih => simp [wordsTo, ih]

theorem rotr_lt (x n : Nat) : rotr x n < 4294967296 := Nat.mod_lt _ (by decide)

theorem xor_lt32 {a b : Nat} (ha : a < 4294967296) (hb : b < 4294967296) : a ^^^ b < 4294967296 := Nat.xor_lt_two_pow (n := 32) ha hb
theorem or_lt32 {a b : Nat} (ha : a < 4294967296) (hb : b < 4294967296) : a ||| b < 4294967296 := Nat.or_lt_two_pow (n := 32) ha hb
theorem and_lt32 {a b : Nat} (ha : a < 4294967296) : a &&& b < 4294967296 := Nat.lt_of_le_of_lt Nat.and_le_left ha

theorem sg0_lt (x : Nat) (h : x < 4294967296) : sg0 x < 4294967296 := xor_lt32 (xor_lt32 (rotr_lt _ _) (rotr_lt _ _)) (by omega)
theorem sg1_lt (x : Nat) (h : x < 4294967296) : sg1 x < 4294967296 := xor_lt32 (xor_lt32 (rotr_lt _ _) (rotr_lt _ _)) (by omega)
theorem bg0_lt (x : Nat) : bg0 x < 4294967296 := xor_lt32 (xor_lt32 (rotr_lt _ _) (rotr_lt _ _)) (rotr_lt _ _)
theorem bg1_lt (x : Nat) : bg1 x < 4294967296 := xor_lt32 (xor_lt32 (rotr_lt _ _) (rotr_lt _ _)) (rotr_lt _ _)
theorem chs_lt {e f g : Nat} (he : e < 4294967296) : chs e f g < 4294967296 := or_lt32 (and_lt32 he) (and_lt32 (by omega))
theorem maj_lt {a b c : Nat} (ha : a < 4294967296) (hb : b < 4294967296) : maj a b c < 4294967296 := or_lt32 (or_lt32 (and_lt32 ha) (and_lt32 ha)) (and_lt32 hb)

theorem be32_lt (l : List UInt8) (i : Nat) : be32 l i < 4294967296 := by
  have h0 := (l.getD (4 * i) 0).toNat_lt
  have h1 := (l.getD (4 * i + 1) 0).toNat_lt
  have h2 := (l.getD (4 * i + 2) 0).toNat_lt
  have h3 := (l.getD (4 * i + 3) 0).toNat_lt
  unfold be32; omega

theorem nextWord_lt (l : List UInt8) (ws : List Nat) : nextWord l ws < 4294967296 := by
  unfold nextWord; split
  · exact be32_lt _ _
  · exact Nat.mod_lt _ (by decide)

theorem wordsTo_lt (l : List UInt8) (k j : Nat) : (wordsTo l k).getD j 0 < 4294967296 := by
  induction k generalizing j with
  | zero => simp [wordsTo]
  | succ k ih =>
    simp only [wordsTo, List.getD_eq_getElem?_getD, List.getElem?_append]
    split
    · have := ih j; rwa [List.getD_eq_getElem?_getD] at this
    · cases h : j - (wordsTo l k).length with
      | zero => simp [nextWord_lt]
      | succ n => simp

/-- All eight numbers have 32 bits. -/
def S8.ok (s : S8) : Prop := s.a < 4294967296 ∧ s.b < 4294967296 ∧ s.c < 4294967296 ∧ s.d < 4294967296 ∧ s.e < 4294967296 ∧ s.f < 4294967296 ∧ s.g < 4294967296 ∧ s.h < 4294967296

theorem S8.first_ok : S8.first.ok := by unfold S8.ok S8.first; decide
theorem rnd_ok {s : S8} (h : s.ok) (k w : Nat) : (rnd s k w).ok := by
  obtain ⟨h1, h2, h3, h4, h5, h6, h7, h8⟩ := h
  exact ⟨Nat.mod_lt _ (by decide), h1, h2, h3, Nat.mod_lt _ (by decide), h5, h6, h7⟩
theorem rnds_ok (ws : List Nat) {s : S8} (h : s.ok) (n : Nat) : (rnds ws s n).ok := by
  induction n with
  | zero => exact h
  | succ n ih => exact rnd_ok ih _ _
theorem S8.add_ok (x y : S8) : (x.add y).ok :=
  ⟨Nat.mod_lt _ (by decide), Nat.mod_lt _ (by decide), Nat.mod_lt _ (by decide), Nat.mod_lt _ (by decide), Nat.mod_lt _ (by decide), Nat.mod_lt _ (by decide), Nat.mod_lt _ (by decide), Nat.mod_lt _ (by decide)⟩
theorem stp_ok (s : S8) (blk : List UInt8) : (stp s blk).ok := S8.add_ok _ _
theorem blocks_ok (n : Nat) {s : S8} (h : s.ok) (l : List UInt8) : (blocks n s l).ok := by
  induction n generalizing s l with
  | zero => exact h
  | succ n ih => exact ih (stp_ok _ _) _

theorem blocks_append (n m : Nat) (s : S8) (x y : List UInt8) (hx : x.length = 64 * n) : blocks (n + m) s (x ++ y) = blocks m (blocks n s x) y := by
  induction n generalizing s x with
  | zero => have : x = [] := List.eq_nil_of_length_eq_zero (by omega); subst this; simp [blocks]
  | succ n ih =>
    rw [show n + 1 + m = (n + m) + 1 by omega]
    simp only [blocks]
    rw [List.take_append_of_le_length (by omega), List.drop_append_of_le_length (by omega), ih _ _ (by simp; omega)]

theorem blocks_take (n : Nat) (s : S8) (x : List UInt8) : blocks n s (x.take (64 * n)) = blocks n s x := by
  induction n generalizing s x with
  | zero => simp [blocks]
  | succ n ih =>
    simp only [blocks]
    rw [List.take_take, Nat.min_eq_left (by omega), List.drop_take, show 64 * (n + 1) - 64 = 64 * n by omega, ih]

example : sha [] = [0xe3, 0xb0, 0xc4, 0x42, 0x98, 0xfc, 0x1c, 0x14, 0x9a, 0xfb, 0xf4, 0xc8, 0x99, 0x6f, 0xb9, 0x24, 0x27, 0xae, 0x41, 0xe4, 0x64, 0x9b, 0x93, 0x4c, 0xa4, 0x95, 0x99, 0x1b, 0x78, 0x52, 0xb8, 0x55] := by decide +kernel

/-! ### the other way to say a round's numbers -/
theorem testBit_compl32 (e i : Nat) (he : e < 4294967296) : (4294967295 - e).testBit i = (decide (i < 32) && !e.testBit i) := by
  have := Nat.testBit_two_pow_sub_succ (n := 32) (x := e) he i
  simpa using this

theorem chs_eq {e f g : Nat} (he : e < 4294967296) (hg : g < 4294967296) : g ^^^ (e &&& (f ^^^ g)) = chs e f g := by
  apply Nat.eq_of_testBit_eq
  intro i
  simp only [chs, Nat.testBit_xor, Nat.testBit_and, Nat.testBit_or, testBit_compl32 e i he]
  by_cases hi : i < 32
  · simp [hi]; cases e.testBit i <;> cases f.testBit i <;> cases g.testBit i <;> rfl
  · have h1 : e.testBit i = false := Nat.testBit_lt_two_pow (Nat.lt_of_lt_of_le he (Nat.pow_le_pow_right (n := 2) (by omega) (by omega : 32 ≤ i)))
    have h2 : g.testBit i = false := Nat.testBit_lt_two_pow (Nat.lt_of_lt_of_le hg (Nat.pow_le_pow_right (n := 2) (by omega) (by omega : 32 ≤ i)))
    simp [h1, h2]

theorem maj_eq (a b c : Nat) : (a &&& b) ||| (c &&& (a ||| b)) = maj a b c := by
  apply Nat.eq_of_testBit_eq
  intro i
  simp only [maj, Nat.testBit_and, Nat.testBit_or]
  cases a.testBit i <;> cases b.testBit i <;> cases c.testBit i <;> rfl

end Go.Proofs.Ytacoibiafpdoaaa
