/-
  No cell of these rows narrows 'for every input' (looked for: loops, veiled, ifaces, maps, wideKeys, modest, calm, conditions, laid).
  DERIVED. THE GIVEN ROWS OF THIS SEAT. 4 by the template 'for every input the law returns true; each argument reads behind the call as it read before'; 0 by the template 'total and deterministic' (their statements: YtppdboadjefieaaGreatTotals.lean).
  GIVEN WITH THE SEED: the statements are not yours to turn. If you find one false, say at which input.
  Laid BY PROGRAM, IN A SANDBOX (cutbox-rows.mjs): the forced cells as the released guide's own fill.sh prints them over the translation dfebce881aed9c90… (all of the seat's roots in one cut). By AI agents, Wed Nov 11 2026. No macro, syntax, notation, axiom, sorry.
-/
import Derived.Test.YtppdboadjefieaaGreatChecked
import GoSem.Claim
import GoSem.ClaimJoined
import GoSem.ClaimMapViews
import Derived.JoinedTies
import Derived.KernelRfl
namespace Go.Proofs.YtppdboadjefieaaGreat
/- THE CELL 'sum', in the pinned program and in every row, IS THE sha256 OF THE DUMP (.gsa) THAT YtppdboadjefieaaGreatProg.lean LOADS. Nothing in Lean hashes anything: it is a label: what it is worth is what the hold of that sum in a sandbox is worth. -/
noncomputable def Tryz.pinned : Pinned := { name := "ytppdboadjefieaagreat", sum := "dfebce881aed9c9083d7490eeb85b98db2cd9c9cb07ce3f7ac853e5c3b8625de", checked := Tryz.checked }
namespace Rows
def none {H : Type} : Left H := { results := [], args := [] }

/-- 'keepsakelaw33.SimWrong': WHATEVER THE INPUT: true; the input reads as it did. -/
def simWrongSpec : ChangeSpec := { name := "simWrong", fn := fun _ => fun
  | [d1, d2] => { results := [.lit (.bool true)], args := [d1, d2] }
  | _ => none }
def simWrongRow : OpenClaim := { program := "ytppdboadjefieaagreat", sum := "dfebce881aed9c9083d7490eeb85b98db2cd9c9cb07ce3f7ac853e5c3b8625de", func := "keepsake/keepsakelaw33.SimWrong", spec := "simWrong", inPlace := ["internal/abi.NoEscape", "internal/bytealg.MakeNoZero", "slices.overlaps[keepsake/api.Version]"], unfollowed := true, recurses := true, apart := false }
def SimWrongSaid : Prop := simWrongRow.holds Tryz.pinned (OpenSpec.ofChange simWrongSpec)

/-- ITS FALSE NEIGHBOUR: 'it returns false'. Refute it at one input. -/
def simWrongWrong : ChangeSpec := { name := "simWrong", fn := fun _ => fun
  | [d1, d2] => { results := [.lit (.bool false)], args := [d1, d2] }
  | _ => none }
def SimWrongWrongFalsely : Prop := simWrongRow.holds Tryz.pinned (OpenSpec.ofChange simWrongWrong)

/-- 'keepsakelaw33.SimNil': WHATEVER THE INPUT: true; the input reads as it did. -/
def simNilSpec : ChangeSpec := { name := "simNil", fn := fun _ => fun
  | [d1, d2] => { results := [.lit (.bool true)], args := [d1, d2] }
  | _ => none }
def simNilRow : OpenClaim := { program := "ytppdboadjefieaagreat", sum := "dfebce881aed9c9083d7490eeb85b98db2cd9c9cb07ce3f7ac853e5c3b8625de", func := "keepsake/keepsakelaw33.SimNil", spec := "simNil", inPlace := ["internal/abi.NoEscape", "internal/bytealg.MakeNoZero", "slices.overlaps[keepsake/api.Version]"], unfollowed := true, recurses := true, apart := false }
def SimNilSaid : Prop := simNilRow.holds Tryz.pinned (OpenSpec.ofChange simNilSpec)

/-- ITS FALSE NEIGHBOUR: 'it returns false'. Refute it at one input. -/
def simNilWrong : ChangeSpec := { name := "simNil", fn := fun _ => fun
  | [d1, d2] => { results := [.lit (.bool false)], args := [d1, d2] }
  | _ => none }
def SimNilWrongFalsely : Prop := simNilRow.holds Tryz.pinned (OpenSpec.ofChange simNilWrong)

/-- 'keepsakelaw26.VolNil': WHATEVER THE INPUT: true; the input reads as it did. -/
def volNilSpec : ChangeSpec := { name := "volNil", fn := fun _ => fun
  | [d1, d2] => { results := [.lit (.bool true)], args := [d1, d2] }
  | _ => none }
def volNilRow : OpenClaim := { program := "ytppdboadjefieaagreat", sum := "dfebce881aed9c9083d7490eeb85b98db2cd9c9cb07ce3f7ac853e5c3b8625de", func := "keepsake/keepsakelaw26.VolNil", spec := "volNil", inPlace := ["internal/abi.NoEscape", "internal/bytealg.MakeNoZero", "slices.overlaps[keepsake/api.Version]"], unfollowed := true, recurses := true, apart := false }
def VolNilSaid : Prop := volNilRow.holds Tryz.pinned (OpenSpec.ofChange volNilSpec)

/-- ITS FALSE NEIGHBOUR: 'it returns false'. Refute it at one input. -/
def volNilWrong : ChangeSpec := { name := "volNil", fn := fun _ => fun
  | [d1, d2] => { results := [.lit (.bool false)], args := [d1, d2] }
  | _ => none }
def VolNilWrongFalsely : Prop := volNilRow.holds Tryz.pinned (OpenSpec.ofChange volNilWrong)

/-- 'keepsakelaw29.AnswerNil': WHATEVER THE INPUT: true; the input reads as it did. -/
def answerNilSpec : ChangeSpec := { name := "answerNil", fn := fun _ => fun
  | [d1, d2, d3] => { results := [.lit (.bool true)], args := [d1, d2, d3] }
  | _ => none }
def answerNilRow : OpenClaim := { program := "ytppdboadjefieaagreat", sum := "dfebce881aed9c9083d7490eeb85b98db2cd9c9cb07ce3f7ac853e5c3b8625de", func := "keepsake/keepsakelaw29.AnswerNil", spec := "answerNil", inPlace := ["internal/abi.NoEscape", "internal/bytealg.MakeNoZero", "slices.overlaps[keepsake/api.Version]"], unfollowed := true, recurses := true, apart := false }
def AnswerNilSaid : Prop := answerNilRow.holds Tryz.pinned (OpenSpec.ofChange answerNilSpec)

/-- ITS FALSE NEIGHBOUR: 'it returns false'. Refute it at one input. -/
def answerNilWrong : ChangeSpec := { name := "answerNil", fn := fun _ => fun
  | [d1, d2, d3] => { results := [.lit (.bool false)], args := [d1, d2, d3] }
  | _ => none }
def AnswerNilWrongFalsely : Prop := answerNilRow.holds Tryz.pinned (OpenSpec.ofChange answerNilWrong)

/- THE SECOND FORM. 'bulk': how many values and letters a reading holds, each counted each time it is reached (what is shared counts as often as it is met; a slice's spare places count too). A statement '..UptoSaid' is the law's where the arguments, and the package variables that the reading takes, are together of bulk at most 1048576: NARROWER than '..Said'. Prove '..Said' where nothing that the law and all that it calls make is longer than what came in: it says more and counts as full. Else prove '..UptoSaid'. A law counts once. -/
mutual
def uptoBulk {H : Type} : DataW H → Nat
  | .lit (.string bytes) => bytes.length + 1
  | .lit _ => 1
  | .nil => 1
  | .ptr d => uptoBulk d + 1
  | .slice elems spare => uptoBulkAll elems + uptoBulkAll spare + 1
  | .agg parts => uptoBulkAll parts + 1
  | .iface _ d => uptoBulk d + 1
  | .map entries => uptoBulkEntries entries + 1
  | .held _ => 1
def uptoBulkAll {H : Type} : List (DataW H) → Nat
  | [] => 0
  | d :: r => uptoBulk d + uptoBulkAll r
def uptoBulkEntries {H : Type} : List (Lit × DataW H) → Nat
  | [] => 0
  | x :: r => uptoBulkEntry x + uptoBulkEntries r
def uptoBulkEntry {H : Type} : Lit × DataW H → Nat
  | (.string bytes, d) => bytes.length + uptoBulk d + 1
  | (_, d) => uptoBulk d + 1
 end
def uptoSmall : (H : Type) → List (DataW H) → Bool := fun _ ds => decide (uptoBulkAll ds ≤ 1048576)
def OpenSpec.upto (s : _root_.Go.ChangeSpec) : _root_.Go.OpenSpec := { _root_.Go.OpenSpec.ofChange s with cond := some uptoSmall }

/-- 'keepsakelaw33.SimWrong', WHERE WHAT IT READS IS OF BULK AT MOST 1048576: true; the input reads as it did. -/
def simWrongUptoRow : OpenClaim := { program := "ytppdboadjefieaagreat", sum := "dfebce881aed9c9083d7490eeb85b98db2cd9c9cb07ce3f7ac853e5c3b8625de", func := "keepsake/keepsakelaw33.SimWrong", spec := "simWrong", inPlace := ["internal/abi.NoEscape", "internal/bytealg.MakeNoZero", "slices.overlaps[keepsake/api.Version]"], unfollowed := true, recurses := true, apart := false, narrowed := true }
def SimWrongUptoSaid : Prop := simWrongUptoRow.holds Tryz.pinned (OpenSpec.upto simWrongSpec)

/-- 'keepsakelaw33.SimNil', WHERE WHAT IT READS IS OF BULK AT MOST 1048576: true; the input reads as it did. -/
def simNilUptoRow : OpenClaim := { program := "ytppdboadjefieaagreat", sum := "dfebce881aed9c9083d7490eeb85b98db2cd9c9cb07ce3f7ac853e5c3b8625de", func := "keepsake/keepsakelaw33.SimNil", spec := "simNil", inPlace := ["internal/abi.NoEscape", "internal/bytealg.MakeNoZero", "slices.overlaps[keepsake/api.Version]"], unfollowed := true, recurses := true, apart := false, narrowed := true }
def SimNilUptoSaid : Prop := simNilUptoRow.holds Tryz.pinned (OpenSpec.upto simNilSpec)

/-- 'keepsakelaw26.VolNil', WHERE WHAT IT READS IS OF BULK AT MOST 1048576: true; the input reads as it did. -/
def volNilUptoRow : OpenClaim := { program := "ytppdboadjefieaagreat", sum := "dfebce881aed9c9083d7490eeb85b98db2cd9c9cb07ce3f7ac853e5c3b8625de", func := "keepsake/keepsakelaw26.VolNil", spec := "volNil", inPlace := ["internal/abi.NoEscape", "internal/bytealg.MakeNoZero", "slices.overlaps[keepsake/api.Version]"], unfollowed := true, recurses := true, apart := false, narrowed := true }
def VolNilUptoSaid : Prop := volNilUptoRow.holds Tryz.pinned (OpenSpec.upto volNilSpec)

/-- 'keepsakelaw29.AnswerNil', WHERE WHAT IT READS IS OF BULK AT MOST 1048576: true; the input reads as it did. -/
def answerNilUptoRow : OpenClaim := { program := "ytppdboadjefieaagreat", sum := "dfebce881aed9c9083d7490eeb85b98db2cd9c9cb07ce3f7ac853e5c3b8625de", func := "keepsake/keepsakelaw29.AnswerNil", spec := "answerNil", inPlace := ["internal/abi.NoEscape", "internal/bytealg.MakeNoZero", "slices.overlaps[keepsake/api.Version]"], unfollowed := true, recurses := true, apart := false, narrowed := true }
def AnswerNilUptoSaid : Prop := answerNilUptoRow.holds Tryz.pinned (OpenSpec.upto answerNilSpec)

end Rows
end Go.Proofs.YtppdboadjefieaaGreat
