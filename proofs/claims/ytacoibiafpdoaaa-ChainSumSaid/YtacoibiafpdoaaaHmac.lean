/- HMAC over lists of bytes. No program in sight. -/
import Derived.Test.YtacoibiafpdoaaaSha
namespace Go.Proofs.Ytacoibiafpdoaaa
open Go

/-- A key's block. -/
def hkey (k : List UInt8) : List UInt8 := if 64 < k.length then sha k ++ List.replicate 32 0 else k ++ List.replicate (64 - k.length) 0
/-- The block, each byte held against one. -/
def heldL (k : List UInt8) (x : UInt8) : List UInt8 := (hkey k).map fun c => c ^^^ x
def hinner (k m : List UInt8) : List UInt8 := heldL k 0x36 ++ m
def houter (k m : List UInt8) : List UInt8 := heldL k 0x5c ++ sha (hinner k m)
def mac (k m : List UInt8) : List UInt8 := sha (houter k m)

theorem hkey_length (k : List UInt8) : (hkey k).length = 64 := by
  unfold hkey; split
  · simp [sha_length]
  · simp; omega
theorem heldL_length (k : List UInt8) (x : UInt8) : (heldL k x).length = 64 := by simp [heldL, hkey_length]
theorem mac_length (k m : List UInt8) : (mac k m).length = 32 := sha_length _
theorem hinner_length (k m : List UInt8) : (hinner k m).length = 64 + m.length := by simp [hinner, heldL_length]
theorem houter_length (k m : List UInt8) : (houter k m).length = 96 := by simp [houter, heldL_length, sha_length]

theorem heldL_inj {k l : List UInt8} {x : UInt8} (h : heldL k x = heldL l x) : hkey k = hkey l := by
  unfold heldL at h
  have := congrArg (List.map fun c => c ^^^ x) h
  simpa [Function.comp_def, UInt8.xor_assoc] using this

theorem houter_ne {k m l n : List UInt8} (h : hkey k ≠ hkey l) : houter k m ≠ houter l n := by
  intro e
  unfold houter at e
  exact h (heldL_inj (List.append_inj e (by simp [heldL_length])).1)
theorem hinner_ne {k m l n : List UInt8} (h : hkey k ≠ hkey l ∨ m ≠ n) : hinner k m ≠ hinner l n := by
  intro e
  unfold hinner at e
  have := List.append_inj e (by simp [heldL_length])
  rcases h with h | h
  · exact h (heldL_inj this.1)
  · exact h this.2

example : (mac "key".toUTF8.data.toList "The quick brown fox jumps over the lazy dog".toUTF8.data.toList).take 8 = [0xf7, 0xbc, 0x83, 0xf4, 0x30, 0x53, 0x84, 0x24] := by decide +kernel
end Go.Proofs.Ytacoibiafpdoaaa
