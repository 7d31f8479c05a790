/- What is said of a label and numbers, and keys made of it, over lists of bytes. No program in sight. -/
import Derived.Test.YtacoibiafpdoaaaHmac
namespace Go.Proofs.Ytacoibiafpdoaaa
open Go

/-- A text with its length ahead. -/
def textL (s : List UInt8) : List UInt8 := beBytes 4 s.length ++ s
/-- What is said of a label and numbers. -/
def saidL (label : List UInt8) (ctx : List Nat) : List UInt8 := textL label ++ [UInt8.ofNat ctx.length] ++ ctx.flatMap (beBytes 8)
/-- May a label and numbers be said? -/
def saidOk (label : List UInt8) (ctx : List Int) : Bool := decide (1 ≤ label.length) && decide (label.length ≤ 16) && decide (ctx.length ≤ 8) && ctx.all (fun n => decide (0 ≤ n))

/-- The next piece of a long key. -/
def piece (master said : List UInt8) (was : List UInt8) (i : Nat) : List UInt8 := mac master (was ++ said ++ [UInt8.ofNat (i + 1)])
/-- The k-th piece (from 1 on), nothing at 0. -/
def pieceAt (master said : List UInt8) : Nat → List UInt8
  | 0 => []
  | k + 1 => piece master said (pieceAt master said k) k
/-- The first k pieces. -/
def pieces (master said : List UInt8) : Nat → List UInt8
  | 0 => []
  | k + 1 => pieces master said k ++ pieceAt master said (k + 1)
/-- So many bytes. -/
def longL (master label : List UInt8) (n : Nat) : List UInt8 := (pieces master (saidL label []) ((n + 31) / 32)).take n

theorem textL_length (s : List UInt8) : (textL s).length = 4 + s.length := by simp [textL, beBytes_length]
theorem flatMap8_length (ctx : List Nat) : (ctx.flatMap (beBytes 8)).length = 8 * ctx.length := by
  induction ctx with
  | nil => rfl
  | cons a r ih => simp [List.flatMap_cons, beBytes_length, ih]; omega
theorem saidL_length (label : List UInt8) (ctx : List Nat) : (saidL label ctx).length = 5 + label.length + 8 * ctx.length := by
  unfold saidL; rw [List.length_append, List.length_append, textL_length, flatMap8_length, List.length_singleton]; omega
theorem pieceAt_length (master said : List UInt8) (k : Nat) : (pieceAt master said (k + 1)).length = 32 := mac_length _ _
theorem pieces_length (master said : List UInt8) (k : Nat) : (pieces master said k).length = 32 * k := by
  induction k with
  | zero => rfl
  | succ k ih => simp [pieces, ih, pieceAt_length]; omega
theorem pieces_prefix (master said : List UInt8) (k j : Nat) : ∃ z, pieces master said (k + j) = pieces master said k ++ z := by
  induction j with
  | zero => exact ⟨[], by simp⟩
  | succ j ih =>
    obtain ⟨z, hz⟩ := ih
    exact ⟨z ++ pieceAt master said (k + j + 1), by rw [← Nat.add_assoc, pieces, hz, List.append_assoc]⟩
theorem longL_length (master label : List UInt8) (n : Nat) : (longL master label n).length = n := by
  unfold longL; rw [List.length_take, pieces_length]; omega
theorem longL_take (master label : List UInt8) (n m : Nat) (h : n ≤ m) : (longL master label m).take n = longL master label n := by
  unfold longL
  rw [List.take_take, Nat.min_eq_left h]
  obtain ⟨z, hz⟩ := pieces_prefix master (saidL label []) ((n + 31) / 32) ((m + 31) / 32 - (n + 31) / 32)
  rw [show (n + 31) / 32 + ((m + 31) / 32 - (n + 31) / 32) = (m + 31) / 32 by omega] at hz
  rw [hz, List.take_append_of_le_length (by rw [pieces_length]; omega)]

theorem beBytes_inj (w : Nat) : ∀ {n m : Nat}, n < 256 ^ w → m < 256 ^ w → beBytes w n = beBytes w m → n = m := by
  induction w with
  | zero => intro n m hn hm _; simp at hn hm; omega
  | succ w ih =>
    intro n m hn hm e
    simp only [beBytes] at e
    obtain ⟨e1, e2⟩ := List.append_inj' e rfl
    rw [Nat.pow_succ] at hn hm
    have h1 := ih (n := n / 256) (m := m / 256) (by omega) (by omega) e1
    have h2 : n % 256 = m % 256 := by
      have := congrArg UInt8.toNat (List.head_eq_of_cons_eq e2)
      simpa using this
    omega

theorem flatMap8_inj : ∀ {a b : List Nat}, (∀ n ∈ a, n < 256 ^ 8) → (∀ n ∈ b, n < 256 ^ 8) → a.length = b.length → a.flatMap (beBytes 8) = b.flatMap (beBytes 8) → a = b
  | [], [], _, _, _, _ => rfl
  | x :: a, y :: b, ha, hb, hl, e => by
    simp only [List.flatMap_cons] at e
    obtain ⟨e1, e2⟩ := List.append_inj e (by simp [beBytes_length])
    rw [beBytes_inj 8 (ha x (by simp)) (hb y (by simp)) e1,
      flatMap8_inj (fun n h => ha n (by simp [h])) (fun n h => hb n (by simp [h])) (by simpa using hl) e2]

/-- None is said as the beginning of another one. -/
theorem saidL_prefix {a b : List UInt8} {l m : List Nat} (ha : a.length ≤ 16) (hb : b.length ≤ 16) (hl : l.length ≤ 8) (hm : m.length ≤ 8)
    (kl : ∀ n ∈ l, n < 256 ^ 8) (km : ∀ n ∈ m, n < 256 ^ 8) {x y : List UInt8} (e : saidL a l ++ x = saidL b m ++ y) : a = b ∧ l = m := by
  simp only [saidL, textL, List.append_assoc] at e
  obtain ⟨e1, e2⟩ := List.append_inj e (by simp [beBytes_length])
  have h1 := beBytes_inj 4 (by omega) (by omega) e1
  obtain ⟨e3, e4⟩ := List.append_inj e2 h1
  obtain ⟨e5, e6⟩ := List.append_inj e4 (by simp)
  have h2 : l.length = m.length := by
    have := congrArg UInt8.toNat (List.head_eq_of_cons_eq e5)
    simp only [UInt8.toNat_ofNat'] at this
    omega
  obtain ⟨e7, _⟩ := List.append_inj e6 (by rw [flatMap8_length, flatMap8_length, h2])
  exact ⟨e3, flatMap8_inj kl km h2 e7⟩
end Go.Proofs.Ytacoibiafpdoaaa
