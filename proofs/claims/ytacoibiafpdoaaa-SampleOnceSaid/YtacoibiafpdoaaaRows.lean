/-
  No cell of these rows narrows 'for every input' (looked for: loops, veiled, ifaces, maps, wideKeys, modest, calm, conditions, laid).
  DERIVED. THE GIVEN ROWS OF THIS SEAT. 19 by the template 'for every input the law returns true; each argument reads behind the call as it read before'; 0 by the template 'total and deterministic' (their statements: YtacoibiafpdoaaaTotals.lean).
  GIVEN WITH THE SEED: the statements are not yours to turn. If you find one false, say at which input.
  Laid BY PROGRAM, IN A SANDBOX (cutbox-rows.mjs): the forced cells as the released guide's own fill.sh prints them over the translation 6c5c3c9f073778db… (all of the seat's roots in one cut). By AI agents, Wed Nov 11 2026. No macro, syntax, notation, axiom, sorry.
-/
import Derived.Test.YtacoibiafpdoaaaChecked
import GoSem.Claim
import GoSem.ClaimJoined
import GoSem.ClaimMapViews
import Derived.JoinedTies
import Derived.KernelRfl
namespace Go.Proofs.Ytacoibiafpdoaaa
/- THE CELL 'sum', in the pinned program and in every row, IS THE sha256 OF THE DUMP (.gsa) THAT YtacoibiafpdoaaaProg.lean LOADS. Nothing in Lean hashes anything: it is a label: what it is worth is what the hold of that sum in a sandbox is worth. -/
noncomputable def Try.pinned : Pinned := { name := "ytacoibiafpdoaaa", sum := "6c5c3c9f073778db1016a7c2546ffc0999927ede14809e5c445f286a20a30b46", checked := Try.checked }
namespace Rows
def none {H : Type} : Left H := { results := [], args := [] }

/-- 'keepsakelaw39.ArmorLetters': WHATEVER THE INPUT: true; the input reads as it did. -/
def armorLettersSpec : ChangeSpec := { name := "armorLetters", fn := fun _ => fun
  | [d1, d2] => { results := [.lit (.bool true)], args := [d1, d2] }
  | _ => none }
def armorLettersRow : OpenClaim := { program := "ytacoibiafpdoaaa", sum := "6c5c3c9f073778db1016a7c2546ffc0999927ede14809e5c445f286a20a30b46", func := "keepsake/keepsakelaw39.ArmorLetters", spec := "armorLetters", inPlace := ["internal/bytealg.IndexByteString", "internal/abi.NoEscape"], apart := false }
def ArmorLettersSaid : Prop := armorLettersRow.holds Try.pinned (OpenSpec.ofChange armorLettersSpec)

/-- ITS FALSE NEIGHBOUR: 'it returns false'. Refute it at one input. -/
def armorLettersWrong : ChangeSpec := { name := "armorLetters", fn := fun _ => fun
  | [d1, d2] => { results := [.lit (.bool false)], args := [d1, d2] }
  | _ => none }
def ArmorLettersWrongFalsely : Prop := armorLettersRow.holds Try.pinned (OpenSpec.ofChange armorLettersWrong)

/-- 'keepsakelaw21.ReceiptMakes': WHATEVER THE INPUT: true; the input reads as it did. -/
def receiptMakesSpec : ChangeSpec := { name := "receiptMakes", fn := fun _ => fun
  | [d1, d2, d3] => { results := [.lit (.bool true)], args := [d1, d2, d3] }
  | _ => none }
def receiptMakesRow : OpenClaim := { program := "ytacoibiafpdoaaa", sum := "6c5c3c9f073778db1016a7c2546ffc0999927ede14809e5c445f286a20a30b46", func := "keepsake/keepsakelaw21.ReceiptMakes", spec := "receiptMakes", inPlace := ["internal/abi.NoEscape", "internal/bytealg.MakeNoZero"], unfollowed := true, recurses := true, apart := false }
def ReceiptMakesSaid : Prop := receiptMakesRow.holds Try.pinned (OpenSpec.ofChange receiptMakesSpec)

/-- ITS FALSE NEIGHBOUR: 'it returns false'. Refute it at one input. -/
def receiptMakesWrong : ChangeSpec := { name := "receiptMakes", fn := fun _ => fun
  | [d1, d2, d3] => { results := [.lit (.bool false)], args := [d1, d2, d3] }
  | _ => none }
def ReceiptMakesWrongFalsely : Prop := receiptMakesRow.holds Try.pinned (OpenSpec.ofChange receiptMakesWrong)

/-- 'keepsakelaw03.HmacKeys': WHATEVER THE INPUT: true; the input reads as it did. -/
def hmacKeysSpec : ChangeSpec := { name := "hmacKeys", fn := fun _ => fun
  | [d1, d2, d3] => { results := [.lit (.bool true)], args := [d1, d2, d3] }
  | _ => none }
def hmacKeysRow : OpenClaim := { program := "ytacoibiafpdoaaa", sum := "6c5c3c9f073778db1016a7c2546ffc0999927ede14809e5c445f286a20a30b46", func := "keepsake/keepsakelaw03.HmacKeys", spec := "hmacKeys", inPlace := ["internal/abi.NoEscape", "internal/bytealg.MakeNoZero"], unfollowed := true, recurses := true, apart := false }
def HmacKeysSaid : Prop := hmacKeysRow.holds Try.pinned (OpenSpec.ofChange hmacKeysSpec)

/-- ITS FALSE NEIGHBOUR: 'it returns false'. Refute it at one input. -/
def hmacKeysWrong : ChangeSpec := { name := "hmacKeys", fn := fun _ => fun
  | [d1, d2, d3] => { results := [.lit (.bool false)], args := [d1, d2, d3] }
  | _ => none }
def HmacKeysWrongFalsely : Prop := hmacKeysRow.holds Try.pinned (OpenSpec.ofChange hmacKeysWrong)

/-- 'keepsakelaw03.HmacMacs': WHATEVER THE INPUT: true; the input reads as it did. -/
def hmacMacsSpec : ChangeSpec := { name := "hmacMacs", fn := fun _ => fun
  | [d1, d2] => { results := [.lit (.bool true)], args := [d1, d2] }
  | _ => none }
def hmacMacsRow : OpenClaim := { program := "ytacoibiafpdoaaa", sum := "6c5c3c9f073778db1016a7c2546ffc0999927ede14809e5c445f286a20a30b46", func := "keepsake/keepsakelaw03.HmacMacs", spec := "hmacMacs", inPlace := ["internal/abi.NoEscape", "internal/bytealg.MakeNoZero"], unfollowed := true, recurses := true, apart := false }
def HmacMacsSaid : Prop := hmacMacsRow.holds Try.pinned (OpenSpec.ofChange hmacMacsSpec)

/-- ITS FALSE NEIGHBOUR: 'it returns false'. Refute it at one input. -/
def hmacMacsWrong : ChangeSpec := { name := "hmacMacs", fn := fun _ => fun
  | [d1, d2] => { results := [.lit (.bool false)], args := [d1, d2] }
  | _ => none }
def HmacMacsWrongFalsely : Prop := hmacMacsRow.holds Try.pinned (OpenSpec.ofChange hmacMacsWrong)

/-- 'keepsakelaw03.HmacClash': WHATEVER THE INPUT: true; the input reads as it did. -/
def hmacClashSpec : ChangeSpec := { name := "hmacClash", fn := fun _ => fun
  | [d1, d2, d3, d4] => { results := [.lit (.bool true)], args := [d1, d2, d3, d4] }
  | _ => none }
def hmacClashRow : OpenClaim := { program := "ytacoibiafpdoaaa", sum := "6c5c3c9f073778db1016a7c2546ffc0999927ede14809e5c445f286a20a30b46", func := "keepsake/keepsakelaw03.HmacClash", spec := "hmacClash", inPlace := ["internal/abi.NoEscape", "internal/bytealg.MakeNoZero"], unfollowed := true, recurses := true, apart := false }
def HmacClashSaid : Prop := hmacClashRow.holds Try.pinned (OpenSpec.ofChange hmacClashSpec)

/-- ITS FALSE NEIGHBOUR: 'it returns false'. Refute it at one input. -/
def hmacClashWrong : ChangeSpec := { name := "hmacClash", fn := fun _ => fun
  | [d1, d2, d3, d4] => { results := [.lit (.bool false)], args := [d1, d2, d3, d4] }
  | _ => none }
def HmacClashWrongFalsely : Prop := hmacClashRow.holds Try.pinned (OpenSpec.ofChange hmacClashWrong)

/-- 'keepsakelaw04.DeriveKeys': WHATEVER THE INPUT: true; the input reads as it did. -/
def deriveKeysSpec : ChangeSpec := { name := "deriveKeys", fn := fun _ => fun
  | [d1, d2, d3] => { results := [.lit (.bool true)], args := [d1, d2, d3] }
  | _ => none }
def deriveKeysRow : OpenClaim := { program := "ytacoibiafpdoaaa", sum := "6c5c3c9f073778db1016a7c2546ffc0999927ede14809e5c445f286a20a30b46", func := "keepsake/keepsakelaw04.DeriveKeys", spec := "deriveKeys", inPlace := ["internal/abi.NoEscape", "internal/bytealg.MakeNoZero"], unfollowed := true, recurses := true, apart := false }
def DeriveKeysSaid : Prop := deriveKeysRow.holds Try.pinned (OpenSpec.ofChange deriveKeysSpec)

/-- ITS FALSE NEIGHBOUR: 'it returns false'. Refute it at one input. -/
def deriveKeysWrong : ChangeSpec := { name := "deriveKeys", fn := fun _ => fun
  | [d1, d2, d3] => { results := [.lit (.bool false)], args := [d1, d2, d3] }
  | _ => none }
def DeriveKeysWrongFalsely : Prop := deriveKeysRow.holds Try.pinned (OpenSpec.ofChange deriveKeysWrong)

/-- 'keepsakelaw03.HmacHashes': WHATEVER THE INPUT: true; the input reads as it did. -/
def hmacHashesSpec : ChangeSpec := { name := "hmacHashes", fn := fun _ => fun
  | [d1, d2] => { results := [.lit (.bool true)], args := [d1, d2] }
  | _ => none }
def hmacHashesRow : OpenClaim := { program := "ytacoibiafpdoaaa", sum := "6c5c3c9f073778db1016a7c2546ffc0999927ede14809e5c445f286a20a30b46", func := "keepsake/keepsakelaw03.HmacHashes", spec := "hmacHashes", inPlace := ["internal/abi.NoEscape", "internal/bytealg.MakeNoZero"], unfollowed := true, recurses := true, apart := false }
def HmacHashesSaid : Prop := hmacHashesRow.holds Try.pinned (OpenSpec.ofChange hmacHashesSpec)

/-- ITS FALSE NEIGHBOUR: 'it returns false'. Refute it at one input. -/
def hmacHashesWrong : ChangeSpec := { name := "hmacHashes", fn := fun _ => fun
  | [d1, d2] => { results := [.lit (.bool false)], args := [d1, d2] }
  | _ => none }
def HmacHashesWrongFalsely : Prop := hmacHashesRow.holds Try.pinned (OpenSpec.ofChange hmacHashesWrong)

/-- 'keepsakelaw04.DeriveApart': WHATEVER THE INPUT: true; the input reads as it did. -/
def deriveApartSpec : ChangeSpec := { name := "deriveApart", fn := fun _ => fun
  | [d1, d2, d3, d4, d5] => { results := [.lit (.bool true)], args := [d1, d2, d3, d4, d5] }
  | _ => none }
def deriveApartRow : OpenClaim := { program := "ytacoibiafpdoaaa", sum := "6c5c3c9f073778db1016a7c2546ffc0999927ede14809e5c445f286a20a30b46", func := "keepsake/keepsakelaw04.DeriveApart", spec := "deriveApart", inPlace := ["internal/abi.NoEscape", "internal/bytealg.MakeNoZero"], unfollowed := true, recurses := true, apart := false }
def DeriveApartSaid : Prop := deriveApartRow.holds Try.pinned (OpenSpec.ofChange deriveApartSpec)

/-- ITS FALSE NEIGHBOUR: 'it returns false'. Refute it at one input. -/
def deriveApartWrong : ChangeSpec := { name := "deriveApart", fn := fun _ => fun
  | [d1, d2, d3, d4, d5] => { results := [.lit (.bool false)], args := [d1, d2, d3, d4, d5] }
  | _ => none }
def DeriveApartWrongFalsely : Prop := deriveApartRow.holds Try.pinned (OpenSpec.ofChange deriveApartWrong)

/-- 'keepsakelaw20.ChainSum': WHATEVER THE INPUT: true; the input reads as it did. -/
def chainSumSpec : ChangeSpec := { name := "chainSum", fn := fun _ => fun
  | [d1, d2] => { results := [.lit (.bool true)], args := [d1, d2] }
  | _ => none }
def chainSumRow : OpenClaim := { program := "ytacoibiafpdoaaa", sum := "6c5c3c9f073778db1016a7c2546ffc0999927ede14809e5c445f286a20a30b46", func := "keepsake/keepsakelaw20.ChainSum", spec := "chainSum", inPlace := ["internal/abi.NoEscape", "internal/bytealg.MakeNoZero"], unfollowed := true, recurses := true, apart := false }
def ChainSumSaid : Prop := chainSumRow.holds Try.pinned (OpenSpec.ofChange chainSumSpec)

/-- ITS FALSE NEIGHBOUR: 'it returns false'. Refute it at one input. -/
def chainSumWrong : ChangeSpec := { name := "chainSum", fn := fun _ => fun
  | [d1, d2] => { results := [.lit (.bool false)], args := [d1, d2] }
  | _ => none }
def ChainSumWrongFalsely : Prop := chainSumRow.holds Try.pinned (OpenSpec.ofChange chainSumWrong)

/-- 'keepsakelaw18.EvolveAt': WHATEVER THE INPUT: true; the input reads as it did. -/
def evolveAtSpec : ChangeSpec := { name := "evolveAt", fn := fun _ => fun
  | [d1, d2, d3] => { results := [.lit (.bool true)], args := [d1, d2, d3] }
  | _ => none }
def evolveAtRow : OpenClaim := { program := "ytacoibiafpdoaaa", sum := "6c5c3c9f073778db1016a7c2546ffc0999927ede14809e5c445f286a20a30b46", func := "keepsake/keepsakelaw18.EvolveAt", spec := "evolveAt", inPlace := ["internal/abi.NoEscape", "internal/bytealg.MakeNoZero"], unfollowed := true, recurses := true, apart := false }
def EvolveAtSaid : Prop := evolveAtRow.holds Try.pinned (OpenSpec.ofChange evolveAtSpec)

/-- ITS FALSE NEIGHBOUR: 'it returns false'. Refute it at one input. -/
def evolveAtWrong : ChangeSpec := { name := "evolveAt", fn := fun _ => fun
  | [d1, d2, d3] => { results := [.lit (.bool false)], args := [d1, d2, d3] }
  | _ => none }
def EvolveAtWrongFalsely : Prop := evolveAtRow.holds Try.pinned (OpenSpec.ofChange evolveAtWrong)

/-- 'keepsakelaw18.EvolveOn': WHATEVER THE INPUT: true; the input reads as it did. -/
def evolveOnSpec : ChangeSpec := { name := "evolveOn", fn := fun _ => fun
  | [d1, d2, d3] => { results := [.lit (.bool true)], args := [d1, d2, d3] }
  | _ => none }
def evolveOnRow : OpenClaim := { program := "ytacoibiafpdoaaa", sum := "6c5c3c9f073778db1016a7c2546ffc0999927ede14809e5c445f286a20a30b46", func := "keepsake/keepsakelaw18.EvolveOn", spec := "evolveOn", inPlace := ["internal/abi.NoEscape", "internal/bytealg.MakeNoZero"], unfollowed := true, recurses := true, apart := false }
def EvolveOnSaid : Prop := evolveOnRow.holds Try.pinned (OpenSpec.ofChange evolveOnSpec)

/-- ITS FALSE NEIGHBOUR: 'it returns false'. Refute it at one input. -/
def evolveOnWrong : ChangeSpec := { name := "evolveOn", fn := fun _ => fun
  | [d1, d2, d3] => { results := [.lit (.bool false)], args := [d1, d2, d3] }
  | _ => none }
def EvolveOnWrongFalsely : Prop := evolveOnRow.holds Try.pinned (OpenSpec.ofChange evolveOnWrong)

/-- 'keepsakelaw04.DeriveLong': WHATEVER THE INPUT: true; the input reads as it did. -/
def deriveLongSpec : ChangeSpec := { name := "deriveLong", fn := fun _ => fun
  | [d1, d2, d3] => { results := [.lit (.bool true)], args := [d1, d2, d3] }
  | _ => none }
def deriveLongRow : OpenClaim := { program := "ytacoibiafpdoaaa", sum := "6c5c3c9f073778db1016a7c2546ffc0999927ede14809e5c445f286a20a30b46", func := "keepsake/keepsakelaw04.DeriveLong", spec := "deriveLong", inPlace := ["internal/abi.NoEscape", "internal/bytealg.MakeNoZero"], unfollowed := true, recurses := true, apart := false }
def DeriveLongSaid : Prop := deriveLongRow.holds Try.pinned (OpenSpec.ofChange deriveLongSpec)

/-- ITS FALSE NEIGHBOUR: 'it returns false'. Refute it at one input. -/
def deriveLongWrong : ChangeSpec := { name := "deriveLong", fn := fun _ => fun
  | [d1, d2, d3] => { results := [.lit (.bool false)], args := [d1, d2, d3] }
  | _ => none }
def DeriveLongWrongFalsely : Prop := deriveLongRow.holds Try.pinned (OpenSpec.ofChange deriveLongWrong)

/-- 'keepsakelaw04.DeriveBegins': WHATEVER THE INPUT: true; the input reads as it did. -/
def deriveBeginsSpec : ChangeSpec := { name := "deriveBegins", fn := fun _ => fun
  | [d1, d2, d3, d4] => { results := [.lit (.bool true)], args := [d1, d2, d3, d4] }
  | _ => none }
def deriveBeginsRow : OpenClaim := { program := "ytacoibiafpdoaaa", sum := "6c5c3c9f073778db1016a7c2546ffc0999927ede14809e5c445f286a20a30b46", func := "keepsake/keepsakelaw04.DeriveBegins", spec := "deriveBegins", inPlace := ["internal/abi.NoEscape", "internal/bytealg.MakeNoZero"], unfollowed := true, recurses := true, apart := false }
def DeriveBeginsSaid : Prop := deriveBeginsRow.holds Try.pinned (OpenSpec.ofChange deriveBeginsSpec)

/-- ITS FALSE NEIGHBOUR: 'it returns false'. Refute it at one input. -/
def deriveBeginsWrong : ChangeSpec := { name := "deriveBegins", fn := fun _ => fun
  | [d1, d2, d3, d4] => { results := [.lit (.bool false)], args := [d1, d2, d3, d4] }
  | _ => none }
def DeriveBeginsWrongFalsely : Prop := deriveBeginsRow.holds Try.pinned (OpenSpec.ofChange deriveBeginsWrong)

/-- 'keepsakelaw18.EvolveApart': WHATEVER THE INPUT: true; the input reads as it did. -/
def evolveApartSpec : ChangeSpec := { name := "evolveApart", fn := fun _ => fun
  | [d] => { results := [.lit (.bool true)], args := [d] }
  | _ => none }
def evolveApartRow : OpenClaim := { program := "ytacoibiafpdoaaa", sum := "6c5c3c9f073778db1016a7c2546ffc0999927ede14809e5c445f286a20a30b46", func := "keepsake/keepsakelaw18.EvolveApart", spec := "evolveApart", inPlace := ["internal/abi.NoEscape", "internal/bytealg.MakeNoZero"], unfollowed := true, recurses := true, apart := false }
def EvolveApartSaid : Prop := evolveApartRow.holds Try.pinned (OpenSpec.ofChange evolveApartSpec)

/-- ITS FALSE NEIGHBOUR: 'it returns false'. Refute it at one input. -/
def evolveApartWrong : ChangeSpec := { name := "evolveApart", fn := fun _ => fun
  | [d] => { results := [.lit (.bool false)], args := [d] }
  | _ => none }
def EvolveApartWrongFalsely : Prop := evolveApartRow.holds Try.pinned (OpenSpec.ofChange evolveApartWrong)

/-- 'keepsakelaw38.SampleNumbers': WHATEVER THE INPUT: true; the input reads as it did. -/
def sampleNumbersSpec : ChangeSpec := { name := "sampleNumbers", fn := fun _ => fun
  | [d1, d2, d3, d4, d5, d6] => { results := [.lit (.bool true)], args := [d1, d2, d3, d4, d5, d6] }
  | _ => none }
def sampleNumbersRow : OpenClaim := { program := "ytacoibiafpdoaaa", sum := "6c5c3c9f073778db1016a7c2546ffc0999927ede14809e5c445f286a20a30b46", func := "keepsake/keepsakelaw38.SampleNumbers", spec := "sampleNumbers", inPlace := ["internal/abi.NoEscape", "internal/bytealg.MakeNoZero"], unfollowed := true, recurses := true, apart := false }
def SampleNumbersSaid : Prop := sampleNumbersRow.holds Try.pinned (OpenSpec.ofChange sampleNumbersSpec)

/-- ITS FALSE NEIGHBOUR: 'it returns false'. Refute it at one input. -/
def sampleNumbersWrong : ChangeSpec := { name := "sampleNumbers", fn := fun _ => fun
  | [d1, d2, d3, d4, d5, d6] => { results := [.lit (.bool false)], args := [d1, d2, d3, d4, d5, d6] }
  | _ => none }
def SampleNumbersWrongFalsely : Prop := sampleNumbersRow.holds Try.pinned (OpenSpec.ofChange sampleNumbersWrong)

/-- 'keepsakelaw38.SamplePicks': WHATEVER THE INPUT: true; the input reads as it did. -/
def samplePicksSpec : ChangeSpec := { name := "samplePicks", fn := fun _ => fun
  | [d1, d2, d3, d4, d5] => { results := [.lit (.bool true)], args := [d1, d2, d3, d4, d5] }
  | _ => none }
def samplePicksRow : OpenClaim := { program := "ytacoibiafpdoaaa", sum := "6c5c3c9f073778db1016a7c2546ffc0999927ede14809e5c445f286a20a30b46", func := "keepsake/keepsakelaw38.SamplePicks", spec := "samplePicks", inPlace := ["internal/abi.NoEscape", "internal/bytealg.MakeNoZero"], unfollowed := true, recurses := true, apart := false }
def SamplePicksSaid : Prop := samplePicksRow.holds Try.pinned (OpenSpec.ofChange samplePicksSpec)

/-- ITS FALSE NEIGHBOUR: 'it returns false'. Refute it at one input. -/
def samplePicksWrong : ChangeSpec := { name := "samplePicks", fn := fun _ => fun
  | [d1, d2, d3, d4, d5] => { results := [.lit (.bool false)], args := [d1, d2, d3, d4, d5] }
  | _ => none }
def SamplePicksWrongFalsely : Prop := samplePicksRow.holds Try.pinned (OpenSpec.ofChange samplePicksWrong)

/-- 'keepsakelaw38.SampleOnce': WHATEVER THE INPUT: true; the input reads as it did. -/
def sampleOnceSpec : ChangeSpec := { name := "sampleOnce", fn := fun _ => fun
  | [d1, d2, d3, d4, d5, d6] => { results := [.lit (.bool true)], args := [d1, d2, d3, d4, d5, d6] }
  | _ => none }
def sampleOnceRow : OpenClaim := { program := "ytacoibiafpdoaaa", sum := "6c5c3c9f073778db1016a7c2546ffc0999927ede14809e5c445f286a20a30b46", func := "keepsake/keepsakelaw38.SampleOnce", spec := "sampleOnce", inPlace := ["internal/abi.NoEscape", "internal/bytealg.MakeNoZero"], unfollowed := true, recurses := true, apart := false }
def SampleOnceSaid : Prop := sampleOnceRow.holds Try.pinned (OpenSpec.ofChange sampleOnceSpec)

/-- ITS FALSE NEIGHBOUR: 'it returns false'. Refute it at one input. -/
def sampleOnceWrong : ChangeSpec := { name := "sampleOnce", fn := fun _ => fun
  | [d1, d2, d3, d4, d5, d6] => { results := [.lit (.bool false)], args := [d1, d2, d3, d4, d5, d6] }
  | _ => none }
def SampleOnceWrongFalsely : Prop := sampleOnceRow.holds Try.pinned (OpenSpec.ofChange sampleOnceWrong)

/-- 'keepsakelaw18.EvolveMakes': WHATEVER THE INPUT: true; the input reads as it did. -/
def evolveMakesSpec : ChangeSpec := { name := "evolveMakes", fn := fun _ => fun
  | [d1, d2] => { results := [.lit (.bool true)], args := [d1, d2] }
  | _ => none }
def evolveMakesRow : OpenClaim := { program := "ytacoibiafpdoaaa", sum := "6c5c3c9f073778db1016a7c2546ffc0999927ede14809e5c445f286a20a30b46", func := "keepsake/keepsakelaw18.EvolveMakes", spec := "evolveMakes", inPlace := ["internal/abi.NoEscape", "internal/bytealg.MakeNoZero"], unfollowed := true, recurses := true, apart := false }
def EvolveMakesSaid : Prop := evolveMakesRow.holds Try.pinned (OpenSpec.ofChange evolveMakesSpec)

/-- ITS FALSE NEIGHBOUR: 'it returns false'. Refute it at one input. -/
def evolveMakesWrong : ChangeSpec := { name := "evolveMakes", fn := fun _ => fun
  | [d1, d2] => { results := [.lit (.bool false)], args := [d1, d2] }
  | _ => none }
def EvolveMakesWrongFalsely : Prop := evolveMakesRow.holds Try.pinned (OpenSpec.ofChange evolveMakesWrong)

/-- 'keepsakelaw20.ChainTags': WHATEVER THE INPUT: true; the input reads as it did. -/
def chainTagsSpec : ChangeSpec := { name := "chainTags", fn := fun _ => fun
  | [d1, d2, d3, d4] => { results := [.lit (.bool true)], args := [d1, d2, d3, d4] }
  | _ => none }
def chainTagsRow : OpenClaim := { program := "ytacoibiafpdoaaa", sum := "6c5c3c9f073778db1016a7c2546ffc0999927ede14809e5c445f286a20a30b46", func := "keepsake/keepsakelaw20.ChainTags", spec := "chainTags", inPlace := ["internal/abi.NoEscape", "internal/bytealg.MakeNoZero"], unfollowed := true, recurses := true, apart := false }
def ChainTagsSaid : Prop := chainTagsRow.holds Try.pinned (OpenSpec.ofChange chainTagsSpec)

/-- ITS FALSE NEIGHBOUR: 'it returns false'. Refute it at one input. -/
def chainTagsWrong : ChangeSpec := { name := "chainTags", fn := fun _ => fun
  | [d1, d2, d3, d4] => { results := [.lit (.bool false)], args := [d1, d2, d3, d4] }
  | _ => none }
def ChainTagsWrongFalsely : Prop := chainTagsRow.holds Try.pinned (OpenSpec.ofChange chainTagsWrong)

/- THE SECOND FORM. 'bulk': how many values and letters a reading holds, each counted each time it is reached (what is shared counts as often as it is met; a slice's spare places count too). A statement '..UptoSaid' is the law's where the arguments, and the package variables that the reading takes, are together of bulk at most 1048576: NARROWER than '..Said'. Prove '..Said' where nothing that the law and all that it calls make is longer than what came in: it says more and counts as full. Else prove '..UptoSaid'. A law counts once. -/
mutual
def uptoBulk {H : Type} : DataW H → Nat
  | .lit (.string bytes) => bytes.length + 1
  | .lit _ => 1
  | .nil => 1
  | .ptr d => uptoBulk d + 1
  | .slice elems spare => uptoBulkAll elems + uptoBulkAll spare + 1
  | .agg parts => uptoBulkAll parts + 1
  | .iface _ d => uptoBulk d + 1
  | .map entries => uptoBulkEntries entries + 1
  | .held _ => 1
def uptoBulkAll {H : Type} : List (DataW H) → Nat
  | [] => 0
  | d :: r => uptoBulk d + uptoBulkAll r
def uptoBulkEntries {H : Type} : List (Lit × DataW H) → Nat
  | [] => 0
  | x :: r => uptoBulkEntry x + uptoBulkEntries r
def uptoBulkEntry {H : Type} : Lit × DataW H → Nat
  | (.string bytes, d) => bytes.length + uptoBulk d + 1
  | (_, d) => uptoBulk d + 1
 end
def uptoSmall : (H : Type) → List (DataW H) → Bool := fun _ ds => decide (uptoBulkAll ds ≤ 1048576)
def OpenSpec.upto (s : _root_.Go.ChangeSpec) : _root_.Go.OpenSpec := { _root_.Go.OpenSpec.ofChange s with cond := some uptoSmall }

/-- 'keepsakelaw39.ArmorLetters', WHERE WHAT IT READS IS OF BULK AT MOST 1048576: true; the input reads as it did. -/
def armorLettersUptoRow : OpenClaim := { program := "ytacoibiafpdoaaa", sum := "6c5c3c9f073778db1016a7c2546ffc0999927ede14809e5c445f286a20a30b46", func := "keepsake/keepsakelaw39.ArmorLetters", spec := "armorLetters", inPlace := ["internal/bytealg.IndexByteString", "internal/abi.NoEscape"], apart := false, narrowed := true }
def ArmorLettersUptoSaid : Prop := armorLettersUptoRow.holds Try.pinned (OpenSpec.upto armorLettersSpec)

/-- 'keepsakelaw21.ReceiptMakes', WHERE WHAT IT READS IS OF BULK AT MOST 1048576: true; the input reads as it did. -/
def receiptMakesUptoRow : OpenClaim := { program := "ytacoibiafpdoaaa", sum := "6c5c3c9f073778db1016a7c2546ffc0999927ede14809e5c445f286a20a30b46", func := "keepsake/keepsakelaw21.ReceiptMakes", spec := "receiptMakes", inPlace := ["internal/abi.NoEscape", "internal/bytealg.MakeNoZero"], unfollowed := true, recurses := true, apart := false, narrowed := true }
def ReceiptMakesUptoSaid : Prop := receiptMakesUptoRow.holds Try.pinned (OpenSpec.upto receiptMakesSpec)

/-- 'keepsakelaw03.HmacKeys', WHERE WHAT IT READS IS OF BULK AT MOST 1048576: true; the input reads as it did. -/
def hmacKeysUptoRow : OpenClaim := { program := "ytacoibiafpdoaaa", sum := "6c5c3c9f073778db1016a7c2546ffc0999927ede14809e5c445f286a20a30b46", func := "keepsake/keepsakelaw03.HmacKeys", spec := "hmacKeys", inPlace := ["internal/abi.NoEscape", "internal/bytealg.MakeNoZero"], unfollowed := true, recurses := true, apart := false, narrowed := true }
def HmacKeysUptoSaid : Prop := hmacKeysUptoRow.holds Try.pinned (OpenSpec.upto hmacKeysSpec)

/-- 'keepsakelaw03.HmacMacs', WHERE WHAT IT READS IS OF BULK AT MOST 1048576: true; the input reads as it did. -/
def hmacMacsUptoRow : OpenClaim := { program := "ytacoibiafpdoaaa", sum := "6c5c3c9f073778db1016a7c2546ffc0999927ede14809e5c445f286a20a30b46", func := "keepsake/keepsakelaw03.HmacMacs", spec := "hmacMacs", inPlace := ["internal/abi.NoEscape", "internal/bytealg.MakeNoZero"], unfollowed := true, recurses := true, apart := false, narrowed := true }
def HmacMacsUptoSaid : Prop := hmacMacsUptoRow.holds Try.pinned (OpenSpec.upto hmacMacsSpec)

/-- 'keepsakelaw03.HmacClash', WHERE WHAT IT READS IS OF BULK AT MOST 1048576: true; the input reads as it did. -/
def hmacClashUptoRow : OpenClaim := { program := "ytacoibiafpdoaaa", sum := "6c5c3c9f073778db1016a7c2546ffc0999927ede14809e5c445f286a20a30b46", func := "keepsake/keepsakelaw03.HmacClash", spec := "hmacClash", inPlace := ["internal/abi.NoEscape", "internal/bytealg.MakeNoZero"], unfollowed := true, recurses := true, apart := false, narrowed := true }
def HmacClashUptoSaid : Prop := hmacClashUptoRow.holds Try.pinned (OpenSpec.upto hmacClashSpec)

/-- 'keepsakelaw04.DeriveKeys', WHERE WHAT IT READS IS OF BULK AT MOST 1048576: true; the input reads as it did. -/
def deriveKeysUptoRow : OpenClaim := { program := "ytacoibiafpdoaaa", sum := "6c5c3c9f073778db1016a7c2546ffc0999927ede14809e5c445f286a20a30b46", func := "keepsake/keepsakelaw04.DeriveKeys", spec := "deriveKeys", inPlace := ["internal/abi.NoEscape", "internal/bytealg.MakeNoZero"], unfollowed := true, recurses := true, apart := false, narrowed := true }
def DeriveKeysUptoSaid : Prop := deriveKeysUptoRow.holds Try.pinned (OpenSpec.upto deriveKeysSpec)

/-- 'keepsakelaw03.HmacHashes', WHERE WHAT IT READS IS OF BULK AT MOST 1048576: true; the input reads as it did. -/
def hmacHashesUptoRow : OpenClaim := { program := "ytacoibiafpdoaaa", sum := "6c5c3c9f073778db1016a7c2546ffc0999927ede14809e5c445f286a20a30b46", func := "keepsake/keepsakelaw03.HmacHashes", spec := "hmacHashes", inPlace := ["internal/abi.NoEscape", "internal/bytealg.MakeNoZero"], unfollowed := true, recurses := true, apart := false, narrowed := true }
def HmacHashesUptoSaid : Prop := hmacHashesUptoRow.holds Try.pinned (OpenSpec.upto hmacHashesSpec)

/-- 'keepsakelaw04.DeriveApart', WHERE WHAT IT READS IS OF BULK AT MOST 1048576: true; the input reads as it did. -/
def deriveApartUptoRow : OpenClaim := { program := "ytacoibiafpdoaaa", sum := "6c5c3c9f073778db1016a7c2546ffc0999927ede14809e5c445f286a20a30b46", func := "keepsake/keepsakelaw04.DeriveApart", spec := "deriveApart", inPlace := ["internal/abi.NoEscape", "internal/bytealg.MakeNoZero"], unfollowed := true, recurses := true, apart := false, narrowed := true }
def DeriveApartUptoSaid : Prop := deriveApartUptoRow.holds Try.pinned (OpenSpec.upto deriveApartSpec)

/-- 'keepsakelaw20.ChainSum', WHERE WHAT IT READS IS OF BULK AT MOST 1048576: true; the input reads as it did. -/
def chainSumUptoRow : OpenClaim := { program := "ytacoibiafpdoaaa", sum := "6c5c3c9f073778db1016a7c2546ffc0999927ede14809e5c445f286a20a30b46", func := "keepsake/keepsakelaw20.ChainSum", spec := "chainSum", inPlace := ["internal/abi.NoEscape", "internal/bytealg.MakeNoZero"], unfollowed := true, recurses := true, apart := false, narrowed := true }
def ChainSumUptoSaid : Prop := chainSumUptoRow.holds Try.pinned (OpenSpec.upto chainSumSpec)

/-- 'keepsakelaw18.EvolveAt', WHERE WHAT IT READS IS OF BULK AT MOST 1048576: true; the input reads as it did. -/
def evolveAtUptoRow : OpenClaim := { program := "ytacoibiafpdoaaa", sum := "6c5c3c9f073778db1016a7c2546ffc0999927ede14809e5c445f286a20a30b46", func := "keepsake/keepsakelaw18.EvolveAt", spec := "evolveAt", inPlace := ["internal/abi.NoEscape", "internal/bytealg.MakeNoZero"], unfollowed := true, recurses := true, apart := false, narrowed := true }
def EvolveAtUptoSaid : Prop := evolveAtUptoRow.holds Try.pinned (OpenSpec.upto evolveAtSpec)

/-- 'keepsakelaw18.EvolveOn', WHERE WHAT IT READS IS OF BULK AT MOST 1048576: true; the input reads as it did. -/
def evolveOnUptoRow : OpenClaim := { program := "ytacoibiafpdoaaa", sum := "6c5c3c9f073778db1016a7c2546ffc0999927ede14809e5c445f286a20a30b46", func := "keepsake/keepsakelaw18.EvolveOn", spec := "evolveOn", inPlace := ["internal/abi.NoEscape", "internal/bytealg.MakeNoZero"], unfollowed := true, recurses := true, apart := false, narrowed := true }
def EvolveOnUptoSaid : Prop := evolveOnUptoRow.holds Try.pinned (OpenSpec.upto evolveOnSpec)

/-- 'keepsakelaw04.DeriveLong', WHERE WHAT IT READS IS OF BULK AT MOST 1048576: true; the input reads as it did. -/
def deriveLongUptoRow : OpenClaim := { program := "ytacoibiafpdoaaa", sum := "6c5c3c9f073778db1016a7c2546ffc0999927ede14809e5c445f286a20a30b46", func := "keepsake/keepsakelaw04.DeriveLong", spec := "deriveLong", inPlace := ["internal/abi.NoEscape", "internal/bytealg.MakeNoZero"], unfollowed := true, recurses := true, apart := false, narrowed := true }
def DeriveLongUptoSaid : Prop := deriveLongUptoRow.holds Try.pinned (OpenSpec.upto deriveLongSpec)

/-- 'keepsakelaw04.DeriveBegins', WHERE WHAT IT READS IS OF BULK AT MOST 1048576: true; the input reads as it did. -/
def deriveBeginsUptoRow : OpenClaim := { program := "ytacoibiafpdoaaa", sum := "6c5c3c9f073778db1016a7c2546ffc0999927ede14809e5c445f286a20a30b46", func := "keepsake/keepsakelaw04.DeriveBegins", spec := "deriveBegins", inPlace := ["internal/abi.NoEscape", "internal/bytealg.MakeNoZero"], unfollowed := true, recurses := true, apart := false, narrowed := true }
def DeriveBeginsUptoSaid : Prop := deriveBeginsUptoRow.holds Try.pinned (OpenSpec.upto deriveBeginsSpec)

/-- 'keepsakelaw18.EvolveApart', WHERE WHAT IT READS IS OF BULK AT MOST 1048576: true; the input reads as it did. -/
def evolveApartUptoRow : OpenClaim := { program := "ytacoibiafpdoaaa", sum := "6c5c3c9f073778db1016a7c2546ffc0999927ede14809e5c445f286a20a30b46", func := "keepsake/keepsakelaw18.EvolveApart", spec := "evolveApart", inPlace := ["internal/abi.NoEscape", "internal/bytealg.MakeNoZero"], unfollowed := true, recurses := true, apart := false, narrowed := true }
def EvolveApartUptoSaid : Prop := evolveApartUptoRow.holds Try.pinned (OpenSpec.upto evolveApartSpec)

/-- 'keepsakelaw38.SampleNumbers', WHERE WHAT IT READS IS OF BULK AT MOST 1048576: true; the input reads as it did. -/
def sampleNumbersUptoRow : OpenClaim := { program := "ytacoibiafpdoaaa", sum := "6c5c3c9f073778db1016a7c2546ffc0999927ede14809e5c445f286a20a30b46", func := "keepsake/keepsakelaw38.SampleNumbers", spec := "sampleNumbers", inPlace := ["internal/abi.NoEscape", "internal/bytealg.MakeNoZero"], unfollowed := true, recurses := true, apart := false, narrowed := true }
def SampleNumbersUptoSaid : Prop := sampleNumbersUptoRow.holds Try.pinned (OpenSpec.upto sampleNumbersSpec)

/-- 'keepsakelaw38.SamplePicks', WHERE WHAT IT READS IS OF BULK AT MOST 1048576: true; the input reads as it did. -/
def samplePicksUptoRow : OpenClaim := { program := "ytacoibiafpdoaaa", sum := "6c5c3c9f073778db1016a7c2546ffc0999927ede14809e5c445f286a20a30b46", func := "keepsake/keepsakelaw38.SamplePicks", spec := "samplePicks", inPlace := ["internal/abi.NoEscape", "internal/bytealg.MakeNoZero"], unfollowed := true, recurses := true, apart := false, narrowed := true }
def SamplePicksUptoSaid : Prop := samplePicksUptoRow.holds Try.pinned (OpenSpec.upto samplePicksSpec)

/-- 'keepsakelaw38.SampleOnce', WHERE WHAT IT READS IS OF BULK AT MOST 1048576: true; the input reads as it did. -/
def sampleOnceUptoRow : OpenClaim := { program := "ytacoibiafpdoaaa", sum := "6c5c3c9f073778db1016a7c2546ffc0999927ede14809e5c445f286a20a30b46", func := "keepsake/keepsakelaw38.SampleOnce", spec := "sampleOnce", inPlace := ["internal/abi.NoEscape", "internal/bytealg.MakeNoZero"], unfollowed := true, recurses := true, apart := false, narrowed := true }
def SampleOnceUptoSaid : Prop := sampleOnceUptoRow.holds Try.pinned (OpenSpec.upto sampleOnceSpec)

/-- 'keepsakelaw18.EvolveMakes', WHERE WHAT IT READS IS OF BULK AT MOST 1048576: true; the input reads as it did. -/
def evolveMakesUptoRow : OpenClaim := { program := "ytacoibiafpdoaaa", sum := "6c5c3c9f073778db1016a7c2546ffc0999927ede14809e5c445f286a20a30b46", func := "keepsake/keepsakelaw18.EvolveMakes", spec := "evolveMakes", inPlace := ["internal/abi.NoEscape", "internal/bytealg.MakeNoZero"], unfollowed := true, recurses := true, apart := false, narrowed := true }
def EvolveMakesUptoSaid : Prop := evolveMakesUptoRow.holds Try.pinned (OpenSpec.upto evolveMakesSpec)

/-- 'keepsakelaw20.ChainTags', WHERE WHAT IT READS IS OF BULK AT MOST 1048576: true; the input reads as it did. -/
def chainTagsUptoRow : OpenClaim := { program := "ytacoibiafpdoaaa", sum := "6c5c3c9f073778db1016a7c2546ffc0999927ede14809e5c445f286a20a30b46", func := "keepsake/keepsakelaw20.ChainTags", spec := "chainTags", inPlace := ["internal/abi.NoEscape", "internal/bytealg.MakeNoZero"], unfollowed := true, recurses := true, apart := false, narrowed := true }
def ChainTagsUptoSaid : Prop := chainTagsUptoRow.holds Try.pinned (OpenSpec.upto chainTagsSpec)

end Rows
end Go.Proofs.Ytacoibiafpdoaaa
