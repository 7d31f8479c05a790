/- Records, sealed records and receipts, as plain data; names. No program in sight. -/
import Derived.Test.YtacoibiafpdoaaaDerive
namespace Go.Proofs.Ytacoibiafpdoaaa
open Go

/-- May a letter be in a name? -/
def nameByte (c : UInt8) : Bool := (decide (97 ≤ c.toNat) && decide (c.toNat ≤ 122)) || (decide (48 ≤ c.toNat) && decide (c.toNat ≤ 57))
/-- Is a text a name? -/
def nameOk (l : List UInt8) : Bool := decide (1 ≤ l.length) && decide (l.length ≤ 16) && l.all nameByte

structure Rec where
  kind : Int
  epoch : Int
  time : Int
  count : Int
  target : Int
  till : Int
  root : ByteArray
  name : ByteArray
def Rec.cells (r : Rec) : List Value := [.int .i64 r.kind, .int .i64 r.epoch, .int .i64 r.time, .int .i64 r.count, .int .i64 r.target, .int .i64 r.till, .string r.root, .string r.name]
def Rec.v (r : Rec) : Value := .agg #[.int .i64 r.kind, .int .i64 r.epoch, .int .i64 r.time, .int .i64 r.count, .int .i64 r.target, .int .i64 r.till, .string r.root, .string r.name]
def Rec.zero : Rec := ⟨0, 0, 0, 0, 0, 0, ⟨#[]⟩, ⟨#[]⟩⟩

/-- What a record's kind says of its other parts. -/
def recKind (r : Rec) : Bool :=
  if r.kind = 1 then decide (0 ≤ r.count) && decide (r.count ≤ 4096) && decide (r.root.size = 32) && decide (r.target = 0) && decide (r.till = 0) && decide (r.name.size = 0)
  else if r.kind = 2 ∨ r.kind = 5 then decide (0 ≤ r.target) && decide (r.target < r.epoch) && decide (0 ≤ r.till) && decide (r.till ≤ 1099511627776) && decide (r.count = 0) && decide (r.root.size = 0) && decide (r.name.size = 0)
  else if r.kind = 3 then decide (0 ≤ r.target) && decide (r.target < r.epoch) && nameOk r.name.data.toList && decide (r.till = 0) && decide (r.count = 0) && decide (r.root.size = 0)
  else if r.kind = 4 then nameOk r.name.data.toList && decide (r.target = 0) && decide (r.till = 0) && decide (r.count = 0) && decide (r.root.size = 0)
  else false
/-- May a record be? -/
def recOk (r : Rec) : Bool := decide (0 ≤ r.epoch) && decide (r.epoch ≤ 4294967295) && decide (0 ≤ r.time) && decide (r.time ≤ 1099511627776) && recKind r
end Go.Proofs.Ytacoibiafpdoaaa
