/- What sealing makes and checking tells, in plain words (chapter 20). -/
import Derived.Test.YtidekfbgjghcjaaGreatG8
namespace Go.Proofs.YtidekfbgjghcjaaGreat
set_option linter.unusedSimpArgs false
set_option linter.unusedVariables false
open Go

def closes (l : List Rec) : Nat := (l.filter (fun r => decide (r.kind = 1))).length
structure FollowsOk (first : Int) (l : List Rec) : Prop where
  each : ∀ (k : Nat) (r : Rec), l[k]? = some r → recOk r = true ∧ r.epoch = first + (closes (l.take k) : Int)
def beyondS (first : Int) (l : List Rec) : Bool := match l.getLast? with | some r => decide (4096 < r.epoch - first) | none => false
structure SealOk (root : ByteArray) (first : Int) (l : List Rec) : Prop where
  root : root.size = 32
  first0 : 0 ≤ first
  first1 : first ≤ 4294967295
  follow : (followGo first 0 0 l).2.2 = 0
  near : beyondS first l = false
end Go.Proofs.YtidekfbgjghcjaaGreat

