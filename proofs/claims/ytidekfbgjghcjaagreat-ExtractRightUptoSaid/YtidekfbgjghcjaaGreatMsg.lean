/- Messages of an audit, as plain data: what may be, and its bytes (chapter 27). No program in sight. -/
import Derived.Test.YtidekfbgjghcjaaGreatTake
import Derived.Test.YtidekfbgjghcjaaGreatG9
namespace Go.Proofs.YtidekfbgjghcjaaGreat
set_option linter.unusedSimpArgs false
set_option linter.unusedVariables false
open Go

structure LeafD where
  lba : Int
  hash : ByteArray
deriving instance DecidableEq for LeafD
def LeafD.cells (x : LeafD) : List Value := [.int .i64 x.lba, .string x.hash]
def LeafD.v (x : LeafD) : Value := .agg #[.int .i64 x.lba, .string x.hash]
def LeafD.zero : LeafD := ⟨0, ⟨#[]⟩⟩
def leafSaid (x : LeafD) : Bool := decide (0 ≤ x.lba) && decide (x.lba < 4096) && decide ((x.hash.size : Int) = 32)
def leafOk (x : LeafD) : Bool := decide (x = LeafD.zero) || leafSaid x
def epochOk (n : Int) : Bool := decide (0 ≤ n) && decide (n ≤ 4294967295)
def askOk (e l : Int) : Bool := epochOk e && (decide (0 ≤ l) && decide (l ≤ 4095))
def all32 (l : List ByteArray) : Bool := l.all (fun s => decide (s.size = 32))
structure ToldD where
  askE : Int
  askL : Int
  gone : Bool
  found : Bool
  at_ : Int
  here : LeafD
  ahead : LeafD
  up : List ByteArray
  left : List ByteArray
  slot : Int
  cipher : ByteArray
deriving instance DecidableEq for ToldD
def ToldD.cells (t : ToldD) (u l : Value) : List Value := [.int .i64 t.askE, .int .i64 t.askL, .bool t.gone, .bool t.found, .int .i64 t.at_, .int .i64 t.here.lba, .string t.here.hash, .int .i64 t.ahead.lba, .string t.ahead.hash, u, l, .int .i64 t.slot, .string t.cipher]
def ToldD.v (t : ToldD) (u l : Value) : Value := .agg #[.int .i64 t.askE, .int .i64 t.askL, .bool t.gone, .bool t.found, .int .i64 t.at_, .int .i64 t.here.lba, .string t.here.hash, .int .i64 t.ahead.lba, .string t.ahead.hash, u, l, .int .i64 t.slot, .string t.cipher]
def ToldD.zero : ToldD := ⟨0, 0, false, false, 0, LeafD.zero, LeafD.zero, [], [], 0, ⟨#[]⟩⟩
def toldBare (t : ToldD) : Bool := decide (t.slot = 0) && decide (t.cipher = ⟨#[]⟩) && !t.found && decide (t.at_ = 0) && decide (t.here = LeafD.zero) && decide (t.ahead = LeafD.zero) && decide (t.up.length + t.left.length = 0)
def toldOk (t : ToldD) : Bool :=
  if t.gone then askOk t.askE t.askL && toldBare t
  else askOk t.askE t.askL && epochOk t.slot && decide ((t.cipher.size : Int) ≤ 4000) && (decide (0 ≤ t.at_) && decide (t.at_ ≤ 4096)) && leafOk t.here && leafOk t.ahead && (decide (t.up.length ≤ 12) && decide (t.left.length ≤ 12) && all32 t.up && all32 t.left)

def Sld.zero : Sld := ⟨Rec.zero, ⟨#[]⟩⟩
structure MsgD where
  kind : Int
  epoch : Int
  seq : Int
  nonce : ByteArray
  tag : ByteArray
  last : ByteArray
  askE : Int
  askL : Int
  sld : Sld
  told : ToldD
  rcp : Rcp
deriving instance DecidableEq for MsgD
def MsgD.zero : MsgD := ⟨0, 0, 0, ⟨#[]⟩, ⟨#[]⟩, ⟨#[]⟩, 0, 0, Sld.zero, ToldD.zero, Rcp.zero⟩
def MsgD.cells (m : MsgD) (u l : Value) : List Value :=
  [.int .i64 m.kind, .int .i64 m.epoch, .int .i64 m.seq, .string m.nonce, .string m.tag, .string m.last, .int .i64 m.askE, .int .i64 m.askL,
   .int .i64 m.sld.r.kind, .int .i64 m.sld.r.epoch, .int .i64 m.sld.r.time, .int .i64 m.sld.r.count, .int .i64 m.sld.r.target, .int .i64 m.sld.r.till, .string m.sld.r.root, .string m.sld.r.name, .string m.sld.tag,
   .int .i64 m.told.askE, .int .i64 m.told.askL, .bool m.told.gone, .bool m.told.found, .int .i64 m.told.at_, .int .i64 m.told.here.lba, .string m.told.here.hash, .int .i64 m.told.ahead.lba, .string m.told.ahead.hash, u, l, .int .i64 m.told.slot, .string m.told.cipher,
   .int .i64 m.rcp.seq, .int .i64 m.rcp.r.kind, .int .i64 m.rcp.r.epoch, .int .i64 m.rcp.r.time, .int .i64 m.rcp.r.count, .int .i64 m.rcp.r.target, .int .i64 m.rcp.r.till, .string m.rcp.r.root, .string m.rcp.r.name, .string m.rcp.was, .string m.rcp.tag]
def MsgD.v (m : MsgD) (u l : Value) : Value := .agg (m.cells u l).toArray

def saysOk (m : MsgD) : Bool :=
  if m.kind = 1 then true
  else if m.kind = 2 ∨ m.kind = 3 then epochOk m.epoch
  else if m.kind = 4 then epochOk m.epoch && (decide (0 ≤ m.seq) && decide (m.seq ≤ 4096)) && decide (m.last.size = 32)
  else if m.kind = 5 then decide (0 ≤ m.seq) && decide (m.seq ≤ 4095)
  else if m.kind = 6 then (decide (0 ≤ m.seq) && decide (m.seq ≤ 4095)) && recOk m.sld.r && decide (m.sld.tag.size = 32)
  else if m.kind = 7 then askOk m.askE m.askL
  else if m.kind = 8 then toldOk m.told
  else if m.kind = 10 then rcpOk m.rcp
  else false
def wipe (m : MsgD) : MsgD :=
  { m with
    epoch := if m.kind = 2 ∨ m.kind = 3 ∨ m.kind = 4 then 0 else m.epoch
    seq := if m.kind = 4 ∨ m.kind = 5 ∨ m.kind = 6 then 0 else m.seq
    last := if m.kind = 4 then ⟨#[]⟩ else m.last
    sld := if m.kind = 6 then Sld.zero else m.sld
    askE := if m.kind = 7 then 0 else m.askE
    askL := if m.kind = 7 then 0 else m.askL
    told := if m.kind = 8 then ToldD.zero else m.told
    rcp := if m.kind = 10 then Rcp.zero else m.rcp }
def taggedB (k : Int) : Bool := decide (k = 3) || decide (k = 4)
def bareM (m : MsgD) : Bool := decide (m.told = ToldD.zero) && decide (m.epoch = 0) && decide (m.seq = 0) && (decide (m.kind ≠ 10) || decide (m.nonce = ⟨#[]⟩)) && (taggedB m.kind || decide (m.tag = ⟨#[]⟩)) && decide (m.last = ⟨#[]⟩) && (decide (m.askE = 0) && decide (m.askL = 0)) && decide (m.sld = Sld.zero) && decide (m.rcp = Rcp.zero)
def msgOk (m : MsgD) : Bool := saysOk m && ((decide (m.kind = 10) || decide (m.nonce.size = 32)) && (!taggedB m.kind || decide (m.tag.size = 32))) && bareM (wipe m)

theorem rcpPut_length {x : Rcp} (h : rcpOk x = true) : (rcpPut x).length ≤ 200 := by
  have hr := rcpOk_rec h
  simp only [rcpOk, Bool.and_eq_true, decide_eq_true_eq] at h
  unfold rcpPut
  rw [List.length_append, List.length_append, List.length_append, beBytes_length]
  have h1 := recPut_length hr.1
  have e1 : x.was.data.toList.length = x.was.size := rfl
  have e2 : x.tag.data.toList.length = x.tag.size := rfl
  omega
def flagL (b : Bool) : List UInt8 := beBytes 1 (if b then 1 else 0)
def leafL (x : LeafD) : List UInt8 := if x = LeafD.zero then flagL false else flagL true ++ beBytes 2 x.lba.toNat ++ x.hash.data.toList
def pathL (l : List ByteArray) : List UInt8 := beBytes 1 l.length ++ (l.map (·.data.toList)).flatten
def askBL (e l : Int) : List UInt8 := beBytes 4 e.toNat ++ beBytes 2 l.toNat
def toldL (t : ToldD) : List UInt8 :=
  askBL t.askE t.askL ++ flagL t.gone ++
  (if t.gone then [] else beBytes 4 t.slot.toNat ++ textL t.cipher.data.toList ++ flagL t.found ++ beBytes 4 t.at_.toNat ++ leafL t.here ++ leafL t.ahead ++ pathL t.up ++ pathL t.left)
def restL (m : MsgD) : List UInt8 :=
  if m.kind = 2 ∨ m.kind = 3 then beBytes 4 m.epoch.toNat
  else if m.kind = 4 then beBytes 4 m.epoch.toNat ++ beBytes 4 m.seq.toNat ++ m.last.data.toList
  else if m.kind = 5 then beBytes 4 m.seq.toNat
  else if m.kind = 6 then beBytes 4 m.seq.toNat ++ recPut m.sld.r ++ m.sld.tag.data.toList
  else if m.kind = 7 then askBL m.askE m.askL
  else if m.kind = 8 then toldL m.told
  else if m.kind = 10 then rcpPut m.rcp
  else []
def msgSaid (m : MsgD) : List UInt8 := beBytes 1 m.kind.toNat ++ m.nonce.data.toList ++ restL m
def msgPut (m : MsgD) : List UInt8 := msgSaid m ++ m.tag.data.toList
end Go.Proofs.YtidekfbgjghcjaaGreat

