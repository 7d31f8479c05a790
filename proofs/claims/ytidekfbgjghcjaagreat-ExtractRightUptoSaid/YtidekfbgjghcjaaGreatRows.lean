/-
  No cell of these rows narrows 'for every input' (looked for: loops, veiled, ifaces, maps, wideKeys, modest, calm, conditions, laid).
  DERIVED. THE GIVEN ROWS OF THIS SEAT. 4 by the template 'for every input the law returns true; each argument reads behind the call as it read before'; 0 by the template 'total and deterministic' (their statements: YtidekfbgjghcjaaGreatTotals.lean).
  GIVEN WITH THE SEED: the statements are not yours to turn. If you find one false, say at which input.
  Laid BY PROGRAM, IN A SANDBOX (cutbox-rows.mjs): the forced cells as the released guide's own fill.sh prints them over the translation e9f7685a37f432c4… (all of the seat's roots in one cut). By AI agents, Wed Nov 11 2026. No macro, syntax, notation, axiom, sorry.
-/
import Derived.Test.YtidekfbgjghcjaaGreatChecked
import GoSem.Claim
import GoSem.ClaimJoined
import GoSem.ClaimMapViews
import Derived.JoinedTies
import Derived.KernelRfl
namespace Go.Proofs.YtidekfbgjghcjaaGreat
/- THE CELL 'sum', in the pinned program and in every row, IS THE sha256 OF THE DUMP (.gsa) THAT YtidekfbgjghcjaaGreatProg.lean LOADS. Nothing in Lean hashes anything: it is a label: what it is worth is what the hold of that sum in a sandbox is worth. -/
noncomputable def Tryz.pinned : Pinned := { name := "ytidekfbgjghcjaagreat", sum := "e9f7685a37f432c45f7ba2f3f769533bf6721960568b06a1d5994cdf4eaf9da7", checked := Tryz.checked }
namespace Rows
def none {H : Type} : Left H := { results := [], args := [] }

/-- 'keepsakelaw27.WirePuts': WHATEVER THE INPUT: true; the input reads as it did. -/
def wirePutsSpec : ChangeSpec := { name := "wirePuts", fn := fun _ => fun
  | [d1, d2] => { results := [.lit (.bool true)], args := [d1, d2] }
  | _ => none }
def wirePutsRow : OpenClaim := { program := "ytidekfbgjghcjaagreat", sum := "e9f7685a37f432c45f7ba2f3f769533bf6721960568b06a1d5994cdf4eaf9da7", func := "keepsake/keepsakelaw27.WirePuts", spec := "wirePuts", inPlace := ["internal/abi.NoEscape", "internal/bytealg.MakeNoZero"], unfollowed := true, recurses := true, apart := false }
def WirePutsSaid : Prop := wirePutsRow.holds Tryz.pinned (OpenSpec.ofChange wirePutsSpec)

/-- ITS FALSE NEIGHBOUR: 'it returns false'. Refute it at one input. -/
def wirePutsWrong : ChangeSpec := { name := "wirePuts", fn := fun _ => fun
  | [d1, d2] => { results := [.lit (.bool false)], args := [d1, d2] }
  | _ => none }
def WirePutsWrongFalsely : Prop := wirePutsRow.holds Tryz.pinned (OpenSpec.ofChange wirePutsWrong)

/-- 'keepsakelaw32.ExtractRight': WHATEVER THE INPUT: true; the input reads as it did. -/
def extractRightSpec : ChangeSpec := { name := "extractRight", fn := fun _ => fun
  | [d1, d2, d3, d4, d5] => { results := [.lit (.bool true)], args := [d1, d2, d3, d4, d5] }
  | _ => none }
def extractRightRow : OpenClaim := { program := "ytidekfbgjghcjaagreat", sum := "e9f7685a37f432c45f7ba2f3f769533bf6721960568b06a1d5994cdf4eaf9da7", func := "keepsake/keepsakelaw32.ExtractRight", spec := "extractRight", inPlace := ["internal/abi.NoEscape", "internal/bytealg.MakeNoZero"], unfollowed := true, recurses := true, apart := false }
def ExtractRightSaid : Prop := extractRightRow.holds Tryz.pinned (OpenSpec.ofChange extractRightSpec)

/-- ITS FALSE NEIGHBOUR: 'it returns false'. Refute it at one input. -/
def extractRightWrong : ChangeSpec := { name := "extractRight", fn := fun _ => fun
  | [d1, d2, d3, d4, d5] => { results := [.lit (.bool false)], args := [d1, d2, d3, d4, d5] }
  | _ => none }
def ExtractRightWrongFalsely : Prop := extractRightRow.holds Tryz.pinned (OpenSpec.ofChange extractRightWrong)

/-- 'keepsakelaw32.ExtractReceipt': WHATEVER THE INPUT: true; the input reads as it did. -/
def extractReceiptSpec : ChangeSpec := { name := "extractReceipt", fn := fun _ => fun
  | [d1, d2, d3, d4, d5] => { results := [.lit (.bool true)], args := [d1, d2, d3, d4, d5] }
  | _ => none }
def extractReceiptRow : OpenClaim := { program := "ytidekfbgjghcjaagreat", sum := "e9f7685a37f432c45f7ba2f3f769533bf6721960568b06a1d5994cdf4eaf9da7", func := "keepsake/keepsakelaw32.ExtractReceipt", spec := "extractReceipt", inPlace := ["internal/abi.NoEscape", "internal/bytealg.MakeNoZero"], unfollowed := true, recurses := true, apart := false }
def ExtractReceiptSaid : Prop := extractReceiptRow.holds Tryz.pinned (OpenSpec.ofChange extractReceiptSpec)

/-- ITS FALSE NEIGHBOUR: 'it returns false'. Refute it at one input. -/
def extractReceiptWrong : ChangeSpec := { name := "extractReceipt", fn := fun _ => fun
  | [d1, d2, d3, d4, d5] => { results := [.lit (.bool false)], args := [d1, d2, d3, d4, d5] }
  | _ => none }
def ExtractReceiptWrongFalsely : Prop := extractReceiptRow.holds Tryz.pinned (OpenSpec.ofChange extractReceiptWrong)

/-- 'keepsakelaw28.VerifyNil': WHATEVER THE INPUT: true; the input reads as it did. -/
def verifyNilSpec : ChangeSpec := { name := "verifyNil", fn := fun _ => fun
  | [d1, d2] => { results := [.lit (.bool true)], args := [d1, d2] }
  | _ => none }
def verifyNilRow : OpenClaim := { program := "ytidekfbgjghcjaagreat", sum := "e9f7685a37f432c45f7ba2f3f769533bf6721960568b06a1d5994cdf4eaf9da7", func := "keepsake/keepsakelaw28.VerifyNil", spec := "verifyNil", inPlace := ["internal/abi.NoEscape", "internal/bytealg.MakeNoZero"], unfollowed := true, recurses := true, apart := false }
def VerifyNilSaid : Prop := verifyNilRow.holds Tryz.pinned (OpenSpec.ofChange verifyNilSpec)

/-- ITS FALSE NEIGHBOUR: 'it returns false'. Refute it at one input. -/
def verifyNilWrong : ChangeSpec := { name := "verifyNil", fn := fun _ => fun
  | [d1, d2] => { results := [.lit (.bool false)], args := [d1, d2] }
  | _ => none }
def VerifyNilWrongFalsely : Prop := verifyNilRow.holds Tryz.pinned (OpenSpec.ofChange verifyNilWrong)

/- THE SECOND FORM. 'bulk': how many values and letters a reading holds, each counted each time it is reached (what is shared counts as often as it is met; a slice's spare places count too). A statement '..UptoSaid' is the law's where the arguments, and the package variables that the reading takes, are together of bulk at most 1048576: NARROWER than '..Said'. Prove '..Said' where nothing that the law and all that it calls make is longer than what came in: it says more and counts as full. Else prove '..UptoSaid'. A law counts once. -/
mutual
def uptoBulk {H : Type} : DataW H → Nat
  | .lit (.string bytes) => bytes.length + 1
  | .lit _ => 1
  | .nil => 1
  | .ptr d => uptoBulk d + 1
  | .slice elems spare => uptoBulkAll elems + uptoBulkAll spare + 1
  | .agg parts => uptoBulkAll parts + 1
  | .iface _ d => uptoBulk d + 1
  | .map entries => uptoBulkEntries entries + 1
  | .held _ => 1
def uptoBulkAll {H : Type} : List (DataW H) → Nat
  | [] => 0
  | d :: r => uptoBulk d + uptoBulkAll r
def uptoBulkEntries {H : Type} : List (Lit × DataW H) → Nat
  | [] => 0
  | x :: r => uptoBulkEntry x + uptoBulkEntries r
def uptoBulkEntry {H : Type} : Lit × DataW H → Nat
  | (.string bytes, d) => bytes.length + uptoBulk d + 1
  | (_, d) => uptoBulk d + 1
 end
def uptoSmall : (H : Type) → List (DataW H) → Bool := fun _ ds => decide (uptoBulkAll ds ≤ 1048576)
def OpenSpec.upto (s : _root_.Go.ChangeSpec) : _root_.Go.OpenSpec := { _root_.Go.OpenSpec.ofChange s with cond := some uptoSmall }

/-- 'keepsakelaw27.WirePuts', WHERE WHAT IT READS IS OF BULK AT MOST 1048576: true; the input reads as it did. -/
def wirePutsUptoRow : OpenClaim := { program := "ytidekfbgjghcjaagreat", sum := "e9f7685a37f432c45f7ba2f3f769533bf6721960568b06a1d5994cdf4eaf9da7", func := "keepsake/keepsakelaw27.WirePuts", spec := "wirePuts", inPlace := ["internal/abi.NoEscape", "internal/bytealg.MakeNoZero"], unfollowed := true, recurses := true, apart := false, narrowed := true }
def WirePutsUptoSaid : Prop := wirePutsUptoRow.holds Tryz.pinned (OpenSpec.upto wirePutsSpec)

/-- 'keepsakelaw32.ExtractRight', WHERE WHAT IT READS IS OF BULK AT MOST 1048576: true; the input reads as it did. -/
def extractRightUptoRow : OpenClaim := { program := "ytidekfbgjghcjaagreat", sum := "e9f7685a37f432c45f7ba2f3f769533bf6721960568b06a1d5994cdf4eaf9da7", func := "keepsake/keepsakelaw32.ExtractRight", spec := "extractRight", inPlace := ["internal/abi.NoEscape", "internal/bytealg.MakeNoZero"], unfollowed := true, recurses := true, apart := false, narrowed := true }
def ExtractRightUptoSaid : Prop := extractRightUptoRow.holds Tryz.pinned (OpenSpec.upto extractRightSpec)

/-- 'keepsakelaw32.ExtractReceipt', WHERE WHAT IT READS IS OF BULK AT MOST 1048576: true; the input reads as it did. -/
def extractReceiptUptoRow : OpenClaim := { program := "ytidekfbgjghcjaagreat", sum := "e9f7685a37f432c45f7ba2f3f769533bf6721960568b06a1d5994cdf4eaf9da7", func := "keepsake/keepsakelaw32.ExtractReceipt", spec := "extractReceipt", inPlace := ["internal/abi.NoEscape", "internal/bytealg.MakeNoZero"], unfollowed := true, recurses := true, apart := false, narrowed := true }
def ExtractReceiptUptoSaid : Prop := extractReceiptUptoRow.holds Tryz.pinned (OpenSpec.upto extractReceiptSpec)

/-- 'keepsakelaw28.VerifyNil', WHERE WHAT IT READS IS OF BULK AT MOST 1048576: true; the input reads as it did. -/
def verifyNilUptoRow : OpenClaim := { program := "ytidekfbgjghcjaagreat", sum := "e9f7685a37f432c45f7ba2f3f769533bf6721960568b06a1d5994cdf4eaf9da7", func := "keepsake/keepsakelaw28.VerifyNil", spec := "verifyNil", inPlace := ["internal/abi.NoEscape", "internal/bytealg.MakeNoZero"], unfollowed := true, recurses := true, apart := false, narrowed := true }
def VerifyNilUptoSaid : Prop := verifyNilUptoRow.holds Tryz.pinned (OpenSpec.upto verifyNilSpec)

end Rows
end Go.Proofs.YtidekfbgjghcjaaGreat
