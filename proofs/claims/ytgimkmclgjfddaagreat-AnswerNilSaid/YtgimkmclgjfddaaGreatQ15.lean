/- Walks of chain.Said, Tag and the documents' Said, Tag (chapter 20). Walks of chain.Tag, Begin, Follow, and the documents' Tag (chapter 20). Walks of sha.Sum of nothing, chain.Sum; the example of chapter 20. What a statement's parameters hand to its walk: a record by value. -/
import Derived.Test.YtgimkmclgjfddaaGreatQ14
import Derived.Test.YtgimkmclgjfddaaGreatQ9
import Derived.Test.YtgimkmclgjfddaaGreatQ5
import Derived.Test.YtgimkmclgjfddaaGreatQ2
import Derived.Lib.SmallJoins
import Derived.Deep.Fields
import Derived.Deep.QuietTactic
import Derived.BigQuiet
import Derived.Test.YtgimkmclgjfddaaGreatQ8
import Derived.Test.YtgimkmclgjfddaaGreatQ10
set_option linter.unusedSimpArgs false
set_option linter.unusedVariables false
set_option maxRecDepth 100000
set_option maxHeartbeats 4000000
namespace Go.Proofs.YtgimkmclgjfddaaGreat
open Go Go.RowKit
def pP (was:List UInt8) (seq:Int) (r:Rec):List UInt8:=was++beBytes 4 seq.toNat++dR r
def fJ (was:ByteArray) (seq:Int) (r:Rec):Prop:=was.size=32∧0≤seq∧seq≤4294967295∧am r=true
instance (was:ByteArray) (seq:Int) (r:Rec):Decidable (fJ was seq r):=by unfold fJ;infer_instance
def nT (ok:Prop) (l:List UInt8) (e:Ending):Prop:=
 (ok∧∃r,e= .returned (.tuple #[.string r, .bool true])∧aj r l)∨(¬ok∧e= .returned (.tuple #[.string ⟨#[]⟩, .bool false]))
theorem nT.yes {ok:Prop} {l:List UInt8} {e:Ending} (h:nT ok l e) (ho:ok):∃r,e= .returned (.tuple #[.string r, .bool true])∧aj r l:=by
 rcases h with⟨_,h⟩|⟨h,_⟩
 ·exact h
 ·exact absurd ho h
theorem nT.no {ok:Prop} {l:List UInt8} {e:Ending} (h:nT ok l e) (ho:¬ok):e= .returned (.tuple #[.string ⟨#[]⟩, .bool false]):=by
 rcases h with⟨h,_⟩|⟨_,h⟩
 ·exact absurd h ho
 ·exact h
theorem ct {r:Rec} (h:am r=true):(dR r).length≤85:=by
 have:=dd h
 have e1:r.root.data.toList.length=r.root.size:=rfl
 have e2:r.name.data.toList.length=r.name.size:=rfl
 unfold dR
 rw[List.length_append,List.length_append,hZ,bg,bg]
 omega
theorem gp (n:Int) (w:World) (hf:Fits n):
  Calls Tryz.prog 98 #[.int .i64 n, .int .i64 4] w fun e w'=>Ends (0≤n∧n≤4294967295) (beBytes 4 n.toNat) 2 e∧Below w.heap.size w w':=by
 by_cases c1:0≤n∧n≤4294967295
 ·obtain⟨m,rfl⟩:∃m:Nat,n=(m:Int):=⟨n.toNat,by omega⟩
  refine(mH m 4 w (by omega) (by omega) (by omega) (fun _=>by show m<4294967296;omega)).mono ?_
  rintro e w1 ⟨r,rfl,tr,hb⟩
  exact⟨.inl ⟨c1,r,rfl,tr⟩,hb⟩
 ·by_cases c2:n<0
  ·go_enter Tryz.func98,Tryz.ntmps98
   go_wp2_with fail
   go_ret2
   exact⟨.inr ⟨c1,rfl⟩,Below.refl _ _⟩
  ·have d2:0≤n:=by omega
   have d3:4294967296≤n:=by omega
   have d4:(0:Int)<n/4294967296:=by omega
   go_enter Tryz.func98,Tryz.ntmps98
   go_wp2_with fail
   go_ret2
   exact⟨.inr ⟨by omega,rfl⟩,Below.refl _ _⟩
theorem yT (was:ByteArray) (seq:Int) (r:Rec) (w:World) (hroot:r.root.size≤1048576) (hname:r.name.size≤1048576) (hf:Fits r.epoch) (hs:Fits seq):
  Calls Tryz.prog 391 #[.string was, .int .i64 seq,r.v] w fun e w'=>Ends (fJ was seq r) (pP was.data.toList seq r) 2 e∧Below w.heap.size w w':=by
 by_cases c1:0≤seq∧seq≤4294967295
 rotate_left
 ·go_enter Tryz.func391,Tryz.ntmps391
  go_wp2_with ((with_reducible refine ag 25 (.tmp 2) r.cells (some 5) ?hgd ?ho ?hd ?hx ?_);(case hgd|ho|hd|hx=>rfl);(intro b w0 l0 B0 e0 z0))
  refine(gp seq _ hs).mono ?_
  rintro e w1 ⟨he,hb1⟩
  have he:=he.no c1
  subst he
  go_wp2_with fail
  go_ret2
  exact⟨.inr ⟨fun h=>c1 ⟨h.2.1,h.2.2.1⟩,rfl⟩,(e0.mono l0).trans (hb1.mono (by omega))⟩
 by_cases c2:was.size=32
 rotate_left
 ·have d2:¬(was.size:Int)=32:=by omega
  go_enter Tryz.func391,Tryz.ntmps391
  go_wp2_with ((with_reducible refine ag 25 (.tmp 2) r.cells (some 5) ?hgd ?ho ?hd ?hx ?_);(case hgd|ho|hd|hx=>rfl);(intro b w0 l0 B0 e0 z0))
  refine(gp seq _ hs).mono ?_
  rintro e w1 ⟨he,hb1⟩
  obtain⟨q,rfl,tq⟩:=he.yes c1
  clear he
  go_wp2_with fail
  go_ret2
  exact⟨.inr ⟨fun h=>c2 h.1,rfl⟩,(e0.mono l0).trans (hb1.mono (by omega))⟩
 have d2:(was.size:Int)=32:=by omega
 have hws:was.size≤32:=by omega
 go_enter Tryz.func391,Tryz.ntmps391
 go_wp2_with ((with_reducible refine ag 25 (.tmp 2) r.cells (some 5) ?hgd ?ho ?hd ?hx ?_);(case hgd|ho|hd|hx=>rfl);(intro b w0 l0 B0 e0 z0))
 refine(gp seq _ hs).mono ?_
 rintro e w1 ⟨he,hb1⟩
 obtain⟨q,rfl,tq⟩:=he.yes c1
 clear he
 have sq:q.size≤4:=by rw[tq.size,beBytes_length];omega
 have HB:=Lib.hid (B0.below hb1 z0);clear B0
 go_wp2_with ((with_reducible refine ar 25 (.tmp 5) b r.cells 25 _ HB.out Tryz.underlying25 rfl aI ?hgd ?ho ?hx ?_);(case hgd|ho|hx=>rfl))
 refine(jl r _ hroot hname hf).mono ?_
 rintro e w2 ⟨⟨hok,p,rfl,tp⟩|⟨hno,rfl⟩,hb2⟩
 ·have sp:p.size≤85:=by rw[tp.size];exact ct hok
  have HK:=Lib.hid hok;clear hok
  go_wp2_with fail
  go_ret2
  refine⟨.inl ⟨⟨c2,c1.1,c1.2,HK.out⟩,_,rfl,((aj.self was).append tq).append tp⟩,(e0.mono l0).trans ((bt hb1 hb2).mono (by omega))⟩
 ·have HK:=Lib.hid hno;clear hno
  go_wp2_with fail
  go_ret2
  exact⟨.inr ⟨fun h=>by have:=h.2.2.2;rw[HK.out]at this;exact absurd this (by decide),rfl⟩,(e0.mono l0).trans ((bt hb1 hb2).mono (by omega))⟩
theorem wP (was:ByteArray) (seq:Int) (r:Rec) (w:World) (hroot:r.root.size≤1048576) (hname:r.name.size≤1048576) (hf:Fits r.epoch) (hs:Fits seq) (hws0:was.size≤1048576):
  Calls Tryz.prog 280 #[.string was, .int .i64 seq,r.v] w fun e w'=>nT (fJ was seq r) (pP was.data.toList seq r) e∧Below w.heap.size w w':=by
 have c256:((4:Int).toNat)=4:=rfl
 by_cases c2:was.size=32
 all_goals
  have d2:((was.size:Int)=32)=(was.size=32):=by simp only[eq_iff_iff];omega
  have D2:=Lib.hid c2
  go_enter Tryz.func280,Tryz.ntmps280
  go_wp2_with ((with_reducible refine ag 25 (.tmp 2) r.cells (some 5) ?hgd ?ho ?hd ?hx ?_);(case hgd|ho|hd|hx=>rfl);(intro b w0 l0 B0 e0 z0))
  refine(ge seq 4 _ (by have:=hs.2;omega)).mono ?_
  rintro e w1 ⟨he,hb1⟩
  have HB:=Lib.hid (B0.below hb1 z0);clear B0
  rcases he with⟨c1,q,rfl,tq⟩|⟨c1,rfl⟩
  all_goals
   have C1:=Lib.hid c1;clear c1
   go_wp2_with ((with_reducible refine ar 25 (.tmp 5) b r.cells 25 _ HB.out Tryz.underlying25 rfl aI ?hgd ?ho ?hx ?_);(case hgd|ho|hx=>rfl))
   refine(uq r _ hroot hname hf).mono ?_
   rintro e w2 ⟨⟨hok,p,rfl,tp⟩|⟨hno,rfl⟩,hb2⟩
   all_goals
    try(have sp:p.size≤85:=by rw[tp.size];exact ct hok)
    try(have sq:q.size≤4:=by rw[tq.size,beBytes_length];simp)
    try(have HK:=Lib.hid hok;clear hok)
    try(have HK:=Lib.hid hno;clear hno)
    have hbel:=(e0.mono l0).trans ((bt hb1 hb2).mono (show w.heap.size≤w0.heap.size by omega))
    go_wp2_with fail
    go_ret2
    first
    |exact⟨.inl ⟨⟨D2.out,by have:=C1.out.1;omega,by have:=C1.out.2.2.2;simp at this;omega,HK.out⟩,_,rfl,((aj.self was).append (tq.cast rfl)).append tp⟩,hbel⟩
    |exact⟨.inr ⟨fun h=>D2.out h.1,rfl⟩,hbel⟩
    |exact⟨.inr ⟨fun h=>by have:=h.2.2.2;rw[HK.out]at this;exact absurd this (by decide),rfl⟩,hbel⟩
    |exact⟨.inr ⟨fun h=>C1.out ⟨h.2.1,by omega,by omega,by have:=h.2.2.1;have:=h.2.1;show seq.toNat<4294967296;omega⟩,rfl⟩,hbel⟩
def pi (key was:List UInt8) (seq:Int) (r:Rec):List UInt8:=nn (eJ key [109,97,99] []) (pP was seq r)
theorem fK (key was:List UInt8) (seq:Int) (r:Rec):(pi key was seq r).length=32:=jO _ _
theorem AZ (key was:ByteArray) (seq:Int) (r:Rec) (w:World) (hroot:r.root.size≤1048576) (hname:r.name.size≤1048576) (hf:Fits r.epoch) (hs:Fits seq):
  Calls Tryz.prog 334 #[.string key, .string was, .int .i64 seq,r.v] w fun e w'=>Ends (key.size=32∧fJ was seq r) (pi key.data.toList was.data.toList seq r) 2 e∧Below w.heap.size w w':=by
 go_enter Tryz.func334,Tryz.ntmps334
 go_wp2_with ((with_reducible refine ag 25 (.tmp 3) r.cells (some 7) ?hgd ?ho ?hd ?hx ?_);(case hgd|ho|hd|hx=>rfl);(intro b w0 l0 B0 e0 z0))
 refine(xZ key _).mono ?_
 rintro e w1 ⟨⟨c1,q,rfl,tq⟩|⟨c1,rfl⟩,hb1⟩
 ·have C1:=Lib.hid c1;clear c1
  have sq:q.size≤32:=by rw[tq.size,dB];omega
  have HB:=Lib.hid (B0.below hb1 z0);clear B0
  go_wp2_with ((with_reducible refine ar 25 (.tmp 7) b r.cells 25 _ HB.out Tryz.underlying25 rfl aI ?hgd ?ho ?hx ?_);(case hgd|ho|hx=>rfl))
  refine(yT was seq r _ hroot hname hf hs).mono ?_
  rintro e w2 ⟨⟨c2,p,rfl,tp⟩|⟨c2,rfl⟩,hb2⟩
  ·have sp:p.size≤121:=by
    rw[tp.size];unfold pP
    rw[List.length_append,List.length_append,beBytes_length]
    have:=ct c2.2.2.2
    have e1:was.data.toList.length=was.size:=rfl
    have:=c2.1
    omega
   have C2:=Lib.hid c2;clear c2
   go_wp2_with fail
   refine(pF q p _ (by omega) (by omega)).mono ?_
   rintro e w3 ⟨t,rfl,tt,hb3⟩
   go_wp2_with fail
   go_ret2
   refine⟨.inl ⟨⟨C1.out,C2.out⟩,t,rfl,tt.cast ?_⟩,(e0.mono l0).trans ((bt hb1 (bt hb2 hb3)).mono (by omega))⟩
   rw[show q.data.toList= _ from tq,show p.data.toList= _ from tp];rfl
  ·have C2:=Lib.hid c2;clear c2
   go_wp2_with fail
   go_ret2
   exact⟨.inr ⟨fun h=>C2.out h.2,rfl⟩,(e0.mono l0).trans ((bt hb1 hb2).mono (by omega))⟩
 ·have C1:=Lib.hid c1;clear c1
  go_wp2_with fail
  go_ret2
  exact⟨.inr ⟨fun h=>C1.out h.1,rfl⟩,(e0.mono l0).trans (hb1.mono (by omega))⟩
theorem yU (key was:ByteArray) (seq:Int) (r:Rec) (w:World) (hroot:r.root.size≤1048576) (hname:r.name.size≤1048576) (hf:Fits r.epoch) (hs:Fits seq) (hws0:was.size≤1048576):
  Calls Tryz.prog 169 #[.string key, .string was, .int .i64 seq,r.v] w fun e w'=>nT (key.size=32∧fJ was seq r) (pi key.data.toList was.data.toList seq r) e∧Below w.heap.size w w':=by
 go_enter Tryz.func169,Tryz.ntmps169
 go_wp2_with ((with_reducible refine ag 25 (.tmp 3) r.cells (some 7) ?hgd ?ho ?hd ?hx ?_);(case hgd|ho|hd|hx=>rfl);(intro b w0 l0 B0 e0 z0))
 refine(jW key IQ _ [] _ (bc.nil _) (fun j x h=>by simp at h) (by simp)).mono ?_
 rintro e w1 ⟨he,hb1⟩
 have HB:=Lib.hid (B0.below hb1 z0);clear B0
 rcases he with⟨c1,q,rfl,tq⟩|⟨c1,rfl⟩
 all_goals
  have C1:=Lib.hid c1;clear c1
  try(have sq:q.size≤32:=by rw[tq.size,dB];omega)
  go_wp2_with ((with_reducible refine ar 25 (.tmp 7) b r.cells 25 _ HB.out Tryz.underlying25 rfl aI ?hgd ?ho ?hx ?_);(case hgd|ho|hx=>rfl))
  refine(wP was seq r _ hroot hname hf hs hws0).mono ?_
  rintro e w2 ⟨⟨c2,p,rfl,tp⟩|⟨c2,rfl⟩,hb2⟩
 ·have sp:p.size≤121:=by
   rw[tp.size];unfold pP
   rw[List.length_append,List.length_append,beBytes_length]
   have:=ct c2.2.2.2
   have e1:was.data.toList.length=was.size:=rfl
   have:=c2.1
   omega
  have C2:=Lib.hid c2;clear c2
  go_wp2_with fail
  refine(rZ q p _ (by omega) (by omega)).mono ?_
  rintro e w3 ⟨t,rfl,tt,hb3⟩
  go_wp2_with fail
  go_ret2
  refine⟨.inl ⟨⟨C1.out.1,C2.out⟩,t,rfl,tt.cast ?_⟩,(e0.mono l0).trans ((bt hb1 (bt hb2 hb3)).mono (by omega))⟩
  rw[show q.data.toList= _ from tq,show p.data.toList= _ from tp];rfl
 ·have C2:=Lib.hid c2;clear c2
  go_wp2_with fail
  go_ret2
  exact⟨.inr ⟨fun h=>C2.out h.2,rfl⟩,(e0.mono l0).trans ((bt hb1 hb2).mono (by omega))⟩
 ·have C2:=Lib.hid c2;clear c2
  go_wp2_with fail
  go_ret2
  exact⟨.inr ⟨fun h=>C1.out ⟨h.1,by decide⟩,rfl⟩,(e0.mono l0).trans ((bt hb1 hb2).mono (by omega))⟩
 ·have C2:=Lib.hid c2;clear c2
  go_wp2_with fail
  go_ret2
  exact⟨.inr ⟨fun h=>C2.out h.2,rfl⟩,(e0.mono l0).trans ((bt hb1 hb2).mono (by omega))⟩
theorem yV (w:World):
  Calls Tryz.prog 88 #[] w fun e w'=>∃r,e= .returned (.string r)∧aj r (List.replicate 32 0)∧Below w.heap.size w w':=by
 go_enter Tryz.func88,Tryz.ntmps88
 go_wp2_with fail
 refine(je 32 _ (by omega)).mono ?_
 rintro e w1 ⟨r,rfl,tr,hb1⟩
 go_wp2_with fail
 go_ret
 exact⟨r,rfl,tr,hb1⟩
def nf (w:World) (v:Value) (l:List Rec):Prop:=
 (l=[]∧∃(p:Option Addr) (c:Nat),v= .slice p 0 c)∨
 ∃g o c,v= .slice (some ⟨g,o,none⟩) l.length c∧g<w.heap.size∧∀(j:Nat) (r:Rec),l[j]?=some r→w.rangeAt g (o+j*8) r.cells
def fV (epoch now:Int) (i:Nat):List Rec→Int×Nat×Int
 |[]=>(epoch,i,0)
 |r::l=>if am r=true∧r.epoch=epoch∧now≤r.time then fV (if r.kind=1 then epoch+1 else epoch) r.time (i+1) l else(epoch,i,16)
theorem DW (p:Option Addr) (c:Nat) (w:World):
  Calls Tryz.prog 175 #[.slice p 0 c] w fun e w'=>∃r,e= .returned (.string r)∧aj r (dm [])∧Below w.heap.size w w':=by
 go_enter Tryz.func175,Tryz.ntmps175
 go_wp2_with fail
 refine(vI _).mono ?_
 rintro e w1 ⟨b,rfl,l1,B1,hb1,z1⟩
 have h0:Hid (kB w1 b []):=⟨⟨#[]⟩,rfl,B1⟩
 clear B1
 go_wp2_with fail
 go_loopw [9] (fun i wr=>i= .int .i64 0∧w1=wr) (fun i _=>0)
 case atStart=>exact⟨rfl,rfl⟩
 case round=>
  obtain⟨rfl,rfl⟩:=hrel
  go_wp2_with fail
  refine(rV b [] w1 h0.out (by simp)).mono ?_
  rintro e w2 ⟨r,rfl,tr,hb2⟩
  go_wp2_with fail
  go_ret
  exact⟨r,rfl,tr,hb1.trans (hb2.mono hb1.size)⟩
structure aH where
 r:Rec
 tag:ByteArray
def aH.cells (x:aH):List Value:=[.int .i64 x.r.kind, .int .i64 x.r.epoch, .int .i64 x.r.time, .int .i64 x.r.count, .int .i64 x.r.target, .int .i64 x.r.till, .string x.r.root, .string x.r.name, .string x.tag]
def de (w:World) (v:Value) (l:List aH):Prop:=
 (l=[]∧∃(p:Option Addr) (c:Nat),v= .slice p 0 c)∨
 ∃g o c,v= .slice (some ⟨g,o,none⟩) l.length c∧l.length≤c∧g<w.heap.size∧∀(j:Nat) (x:aH),l[j]?=some x→w.rangeAt g (o+j*9) x.cells
theorem de.below {w w':World} {v:Value} {l:List aH} (h:de w v l) {B:Nat} (hb:Below B w w') (hB:w.heap.size≤B):de w' v l:=by
 refine h.imp id ?_
 rintro⟨g,o,c,h1,hc,h2,h3⟩
 exact⟨g,o,c,h1,hc,by have:=hb.size;omega,fun j x hx i u hu=>by rw[hb.cell (by show g<B;omega)];exact h3 j x hx i u hu⟩
theorem de.shape {w:World} {v:Value} {l:List aH} (h:de w v l):∃(p:Option Addr) (c:Nat),v= .slice p l.length c:=by
 rcases h with⟨rfl,p,c,rfl⟩|⟨g,o,c,rfl,_⟩
 ·exact⟨p,c,rfl⟩
 ·exact⟨_,c,rfl⟩
theorem rC {w:World} {g o:Nat} {x:aH} (h:w.rangeAt g o x.cells):
  w.cell? ⟨g,o,none⟩=some (.int .i64 x.r.kind)∧w.cell? ⟨g,o+1,none⟩=some (.int .i64 x.r.epoch)∧w.cell? ⟨g,o+2,none⟩=some (.int .i64 x.r.time)∧w.cell? ⟨g,o+3,none⟩=some (.int .i64 x.r.count)∧
  w.cell? ⟨g,o+4,none⟩=some (.int .i64 x.r.target)∧w.cell? ⟨g,o+5,none⟩=some (.int .i64 x.r.till)∧w.cell? ⟨g,o+6,none⟩=some (.string x.r.root)∧w.cell? ⟨g,o+7,none⟩=some (.string x.r.name)∧w.cell? ⟨g,o+8,none⟩=some (.string x.tag):=
 ⟨h 0 _ rfl,h 1 _ rfl,h 2 _ rfl,h 3 _ rfl,h 4 _ rfl,h 5 _ rfl,h 6 _ rfl,h 7 _ rfl,h 8 _ rfl⟩
open Go.ChangeShapes Go.WideShapes Go.Deep
structure lI (r:Rec):Prop where
 kind:Fits r.kind
 epoch:Fits r.epoch
 time:Fits r.time
 count:Fits r.count
 target:Fits r.target
 till:Fits r.till
section
variable {H:Type} {enc:TypeId×Value→H} {w:World} {base:Nat} {spare:Nat→Bool} {held:Bool}
theorem ut {fuel:Nat} {cs:List Value} {x:DataW H×List MemPlace} (h:DataW.trod enc Tryz.prog w base spare held fuel 25 cs=some x):∃r:Rec,cs=r.cells∧lI r:=by
 obtain⟨xs,n,_,_,hl,hlen,hf⟩:=DataW.trod_struct Tryz.underlying25 h
 have hc:Tryz.prog.cellsOf 25=8:=by kernel_rfl
 have k1:Tryz.prog.cellsOf 3=1:=by kernel_rfl
 have k2:Tryz.prog.cellsOf 9=1:=by kernel_rfl
 rw[hc]at hl
 match cs,hl with
 |[c0,c1,c2,c3,c4,c5,c6,c7],_=>
  match xs,hlen with
  |[y0,y1,y2,y3,y4,y5,y6,y7],_=>
   have g0:DataW.trod enc Tryz.prog w base spare held n 3 (List.take (Tryz.prog.cellsOf 3) (List.drop 0 [c0,c1,c2,c3,c4,c5,c6,c7]))=some y0:=hf 0 _ rfl
   rw[k1]at g0
   have g1:DataW.trod enc Tryz.prog w base spare held n 3 (List.take (Tryz.prog.cellsOf 3) (List.drop 1 [c0,c1,c2,c3,c4,c5,c6,c7]))=some y1:=hf 1 _ rfl
   rw[k1]at g1
   have g2:DataW.trod enc Tryz.prog w base spare held n 3 (List.take (Tryz.prog.cellsOf 3) (List.drop 2 [c0,c1,c2,c3,c4,c5,c6,c7]))=some y2:=hf 2 _ rfl
   rw[k1]at g2
   have g3:DataW.trod enc Tryz.prog w base spare held n 3 (List.take (Tryz.prog.cellsOf 3) (List.drop 3 [c0,c1,c2,c3,c4,c5,c6,c7]))=some y3:=hf 3 _ rfl
   rw[k1]at g3
   have g4:DataW.trod enc Tryz.prog w base spare held n 3 (List.take (Tryz.prog.cellsOf 3) (List.drop 4 [c0,c1,c2,c3,c4,c5,c6,c7]))=some y4:=hf 4 _ rfl
   rw[k1]at g4
   have g5:DataW.trod enc Tryz.prog w base spare held n 3 (List.take (Tryz.prog.cellsOf 3) (List.drop 5 [c0,c1,c2,c3,c4,c5,c6,c7]))=some y5:=hf 5 _ rfl
   rw[k1]at g5
   have g6:DataW.trod enc Tryz.prog w base spare held n 9 (List.take (Tryz.prog.cellsOf 9) (List.drop 6 [c0,c1,c2,c3,c4,c5,c6,c7]))=some y6:=hf 6 _ rfl
   rw[k2]at g6
   have g7:DataW.trod enc Tryz.prog w base spare held n 9 (List.take (Tryz.prog.cellsOf 9) (List.drop 7 [c0,c1,c2,c3,c4,c5,c6,c7]))=some y7:=hf 7 _ rfl
   rw[k2]at g7
   obtain⟨n0,e0,_,f0⟩:=DataW.trod_int Tryz.underlying3 g0
   obtain⟨n1,e1,_,f1⟩:=DataW.trod_int Tryz.underlying3 g1
   obtain⟨n2,e2,_,f2⟩:=DataW.trod_int Tryz.underlying3 g2
   obtain⟨n3,e3,_,f3⟩:=DataW.trod_int Tryz.underlying3 g3
   obtain⟨n4,e4,_,f4⟩:=DataW.trod_int Tryz.underlying3 g4
   obtain⟨n5,e5,_,f5⟩:=DataW.trod_int Tryz.underlying3 g5
   obtain⟨s6,e6,_,_⟩:=DataW.trod_string Tryz.underlying9 g6
   obtain⟨s7,e7,_,_⟩:=DataW.trod_string Tryz.underlying9 g7
   simp at e0 e1 e2 e3 e4 e5 e6 e7
   subst e0 e1 e2 e3 e4 e5 e6 e7
   exact⟨⟨n0,n1,n2,n3,n4,n5,s6,s7⟩,rfl,⟨cr f0,cr f1,cr f2,cr f3,cr f4,cr f5⟩⟩
end
structure uu (w:World) (v:Value) (l:List aH):Prop where
 row:de w v l
 fits:∀(j:Nat) (x:aH),l[j]?=some x→lI x.r
section
variable {H:Type} {enc:TypeId×Value→H} {w:World} {base:Nat} {spare:Nat→Bool} {held:Bool}
theorem DX {fuel:Nat} {cs:List Value} {x:DataW H×List MemPlace} (h:DataW.trod enc Tryz.prog w base spare held fuel 27 cs=some x):∃s:aH,cs=s.cells∧lI s.r:=by
 obtain⟨xs,n,_,_,hl,hlen,hf⟩:=DataW.trod_struct Tryz.underlying27 h
 have hc:Tryz.prog.cellsOf 27=9:=by kernel_rfl
 have k1:Tryz.prog.cellsOf 25=8:=by kernel_rfl
 have k2:Tryz.prog.cellsOf 9=1:=by kernel_rfl
 rw[hc]at hl
 match xs,hlen with
 |[y0,y1],_=>
  have g0:DataW.trod enc Tryz.prog w base spare held n 25 (List.take (Tryz.prog.cellsOf 25) (List.drop 0 cs))=some y0:=hf 0 _ rfl
  have g1:DataW.trod enc Tryz.prog w base spare held n 9 (List.take (Tryz.prog.cellsOf 9) (List.drop 8 cs))=some y1:=hf 1 _ rfl
  rw[k1]at g0
  rw[k2]at g1
  obtain⟨r,hr,hfit⟩:=ut g0
  obtain⟨s,hs,_,_⟩:=DataW.trod_string Tryz.underlying9 g1
  refine⟨⟨r,s⟩, ?_,hfit⟩
  have e1:cs=cs.take 8++cs.drop 8:=(List.take_append_drop 8 cs).symm
  have e2:(cs.drop 8).take 1=cs.drop 8:=List.take_of_length_le (by rw[List.length_drop,hl];omega)
  rw[e1,←e2,hs]
  rw[List.drop_zero]at hr
  rw[hr]
  rfl
end
theorem uu.below {w w':World} {v:Value} {l:List aH} (h:uu w v l) {B:Nat} (hb:Below B w w') (hB:w.heap.size≤B):uu w' v l:=⟨h.row.below hb hB,h.fits⟩
def gV (ys:List aH):List Value:=ys.flatMap aH.cells
theorem jL (ys:List aH) (y:aH):gV (ys++[y])=gV ys++y.cells:=by simp[gV]
theorem DY (ys:List aH):∀(j:Nat) (y:aH),ys[j]?=some y→∀(i:Nat) (u:Value),y.cells[i]?=some u→(gV ys)[j*9+i]?=some u:=by
 induction ys with
 |nil=>intro j y h;simp at h
 |cons a r ih=>
  intro j y h i u hu
  have ha:a.cells.length=9:=rfl
  show(a.cells++gV r)[_]?= _
  cases j with
  |zero=>
   simp at h
   subst h
   have:=(List.getElem?_eq_some_iff.1 hu).1
   rw[List.getElem?_append_left (by omega),Nat.zero_mul,Nat.zero_add]
   exact hu
  |succ j=>
   rw[List.getElem?_append_right (by omega),ha,show(j+1)*9+i-9=j*9+i by omega]
   exact ih j y (by simpa using h) i u hu
theorem de.own {w:World} {base n:Nat} {v:Value} {xs:List aH} (h:w.ownsRow base 27 9 v n (gV xs)) (hn:n=xs.length):de w v xs:=by
 subst hn
 by_cases h0:xs=[]
 ·subst h0
  exact .inl ⟨rfl,qX h⟩
 ·obtain⟨g,cap,z,rfl,hc,hb,hk⟩:=cY h (List.length_pos_iff.2 h0)
  refine .inr ⟨g,0,cap,rfl,hc,hk.lt,fun j x hx i u hu=> ?_⟩
  refine hk.cell ?_
  have h1:=DY xs j x hx i u hu
  rw[Nat.zero_add,List.getElem?_append_left (List.getElem?_eq_some_iff.1 h1).1]
  exact h1
theorem jZ:(Tryz.prog.info? 27).map (fun i=>(i.zero,i.size,i.bytes))=some (some (.agg (aH.cells ⟨Rec.zero,⟨#[]⟩⟩).toArray),9,96):=by kernel_rfl
theorem aH.cells_one (x:aH):∀v∈x.cells,v.oneCell'=true:=by intro v hv;simp[aH.cells]at hv;rcases hv with rfl|rfl|rfl|rfl|rfl|rfl|rfl|rfl|rfl<;>rfl
theorem de.take {w:World} {g o n c:Nat} {l:List aH} (h:de w (.slice (some ⟨g,o,none⟩) n c) l) (hg:g<w.heap.size) (hn:n=l.length) (hc:n≤c) (hr:∀(j:Nat) (x:aH),l[j]?=some x→w.rangeAt g (o+j*9) x.cells) {k:Nat} (hk:k≤l.length):de w (.slice (some ⟨g,o,none⟩) k c) (l.take k):=by
 refine .inr ⟨g,o,c,by rw[List.length_take,Nat.min_eq_left hk],by rw[List.length_take];omega,hg,fun j x hx=> ?_⟩
 by_cases hj:j<k
 ·rw[List.getElem?_take_of_lt hj]at hx;exact hr j x hx
 ·rw[List.getElem?_eq_none (by rw[List.length_take];omega)]at hx;simp at hx
structure kL (w:World) (g o n c:Nat) (l:List aH):Prop where
 len:n=l.length
 cap:n≤c
 lt:g<w.heap.size
 at_:∀(j:Nat) (x:aH),l[j]?=some x→w.rangeAt g (o+j*9) x.cells
theorem kL.below {w w':World} {g o n c:Nat} {l:List aH} (h:kL w g o n c l) {B:Nat} (hb:Below B w w') (hB:w.heap.size≤B):kL w' g o n c l:=
 ⟨h.len,h.cap,by have:=hb.size;have:=h.lt;omega,fun j x hx i u hu=>by rw[hb.cell (by show g<B;have:=h.lt;omega)];exact h.at_ j x hx i u hu⟩
theorem kL.take {w:World} {g o n c:Nat} {l:List aH} (h:kL w g o n c l) {k:Nat} (hk:k≤n):de w (.slice (some ⟨g,o,none⟩) k c) (l.take k):=by
 have h1:=h.len
 have h2:=h.cap
 refine .inr ⟨g,o,c,by rw[List.length_take,Nat.min_eq_left (by omega)],by rw[List.length_take];omega,h.lt,fun j x hx=> ?_⟩
 by_cases hj:j<k
 ·rw[List.getElem?_take_of_lt hj]at hx;exact h.at_ j x hx
 ·rw[List.getElem?_eq_none (by rw[List.length_take];omega)]at hx;simp at hx
theorem kL.row {w:World} {g o n c:Nat} {l:List aH} (h:kL w g o n c l):de w (.slice (some ⟨g,o,none⟩) n c) l:=by
 have:=h.take (k:=n) (Nat.le_refl _)
 rwa[List.take_of_length_le (by have:=h.len;omega)]at this
open Go.Maps Go.WideMaps
def Ty (w:World) (b:Nat) (t:TypeId):Prop:=∃cs fz,w.heap[b]?=some (.cells cs t fz)
def bC (w:World) (S:List Nat) (T:List TypeId):Prop:=∀x,x∈S→∃t,t∈T∧Ty w x t
theorem ab.ty {w:World} {b:Nat} {cs:List Value} {t:TypeId} (h:ab w b cs t):Ty w b t:=⟨_,_,h⟩
theorem ap {w:World} {base size n:Nat} {e:TypeId} {v:Value} {xs:List Value} (h:w.ownsRow base e size v n xs) {k:Nat} (hk:v.ownBlock=some k):Ty w k e:=by
 rcases h.2 with⟨rfl,_⟩|⟨g,cap,cur,rfl,_,hg,_⟩
 ·cases hk
 ·injection hk with hk;subst hk;exact⟨_,_,hg⟩
theorem Ty.eq {w:World} {b:Nat} {t t':TypeId} (h:Ty w b t) (k:Ty w b t'):t=t':=by
 obtain⟨_,_,h⟩:=h
 obtain⟨_,_,k⟩:=k
 rw[h]at k
 injection k with k
 injection k
theorem Ty.notin {w:World} {b:Nat} {t:TypeId} {S:List Nat} {T:List TypeId} (h:Ty w b t) (hS:bC w S T) (ht:t∉T):b∉S:=fun hm=>by
 obtain⟨t',h1,h2⟩:=hS b hm
 exact ht (h.eq h2 ▸ h1)
theorem ng {w:World} {k:TypeId} {R:Value→Option (DataW Unit×List MemPlace)} {b n:Nat} {D:DataW Unit} {S:List Nat} {T:List TypeId} (h:w.ownsMap Tryz.prog k R b n D) (hS:bC w S T):b∉S:=fun hm=>by
 obtain⟨t',_,_,_,h2⟩:=hS b hm
 obtain⟨es,clock,h1,_⟩:=h
 rw[h1]at h2
 cases h2
theorem gq {w:World} {m1 m2 m3 n:Nat} {U L G:DataW Unit} {S:List Nat} {T:List TypeId} (h:cG w m1 m2 m3 n U L G) (hS:bC w S T):∀x,x=m1∨x=m2∨x=m3→x∉S:=by
 rintro x (rfl|rfl|rfl)
 ·exact ng h.u hS
 ·exact ng h.l hS
 ·exact ng h.g hS
theorem aD.tyIn {w:World} {db:Nat} {d:ao} (h:aD w db d):bC w (d.foot db) [138,9,365]:=by
 intro x hx
 simp only[ao.foot,List.mem_cons,List.mem_append,Option.mem_toList,Option.mem_def]at hx
 rcases hx with rfl|hx|hx
 ·exact⟨_,by simp,h.blk.ty⟩
 ·exact⟨_,by simp,ap h.rb hx⟩
 ·exact⟨_,by simp,ap h.rc hx⟩
theorem bC.one {w:World} {b:Nat} {t:TypeId} (h:Ty w b t):bC w [b] [t]:=by intro x hx;simp at hx;subst hx;exact⟨t,by simp,h⟩
theorem bC.cons {w:World} {b:Nat} {t:TypeId} {S:List Nat} {T:List TypeId} (h:Ty w b t) (k:bC w S T):bC w (b::S) (t::T):=by
 intro x hx
 rcases List.mem_cons.1 hx with rfl|hx
 ·exact⟨t,by simp,h⟩
 ·obtain⟨t',h1,h2⟩:=k x hx
  exact⟨t',List.mem_cons_of_mem _ h1,h2⟩
theorem bC.own {w:World} {base size n:Nat} {e:TypeId} {v:Value} {xs:List Value} (h:w.ownsRow base e size v n xs):bC w v.ownBlock.toList [e]:=by
 intro x hx
 exact⟨e,by simp,ap h (by simpa using hx)⟩
theorem jM {w:World} {db:Nat} {d:ao} {S:List Nat} {T:List TypeId} (h:aD w db d) (hS:bC w S T) (ht:∀t,t∈T→t≠138∧t≠9∧t≠365):∀x,x∈d.foot db→x∉S:=by
 intro x hx hm
 obtain⟨t,h1,h2⟩:=hS x hm
 obtain⟨t',h3,h4⟩:=h.tyIn x hx
 obtain rfl:=h2.eq h4
 have:=ht t h1
 simp at h3
 rcases h3 with h3|h3|h3
 ·exact this.1 h3
 ·exact this.2.1 h3
 ·exact this.2.2 h3
structure bk where
 key:ByteArray
 data:ByteArray
 last:aE
 used:Int
 vers:List ba
 sealed:List aH
 first:Int
 epoch:Int
 now:Int
 clock:Int
 U:DataW Unit
 L:DataW Unit
 G:DataW Unit
 n:Nat
 d:ao
structure aV where
 vb:Nat
 jb:Nat
 sb:Nat
 db:Nat
 xb:Nat
 bb:Nat
 c2:Nat
 cb:Nat
 m1:Nat
 m2:Nat
 m3:Nat
 xv:Value
 sv:Value
 rv:Value
def uv (i:aV) (key data:ByteArray):List Value:=[.pointer (some ⟨i.jb,0,none⟩), .string key, .string data, .pointer (some ⟨i.xb,0,none⟩),i.sv, .pointer (some ⟨i.bb,0,none⟩), .pointer (some ⟨i.cb,0,none⟩),i.rv]
structure bA (w:World) (i:aV) (v:bk):Prop where
 vol:ab w i.vb (uv i v.key v.data) 50
 jour:ab w i.jb (bE (.pointer (some ⟨i.sb,0,none⟩)) i.db v.last) 216
 space:ab w i.sb (cn v.last.geo v.used) 320
 disk:aD w i.db v.d
 index:ab w i.xb [.bool true,i.xv] 314
 vers:w.ownsRow 0 181 3 i.xv v.vers.length (cO v.vers)
 sealed:w.ownsRow 0 27 9 i.sv v.sealed.length (gV v.sealed)
 book:ab w i.bb (bD i.c2 v.first v.epoch i.m1 i.m2 i.m3) 167
 bclock:ab w i.c2 [.bool true, .int .i64 v.now] 302
 clock:ab w i.cb [.bool true, .int .i64 v.clock] 302
 maps:cG w i.m1 i.m2 i.m3 v.n v.U v.L v.G
 two:i.c2≠i.cb
 rp:∃p,i.rv= .pointer p
theorem bA.below {w w':World} {i:aV} {v:bk} (h:bA w i v) (hb:Below w.heap.size w w'):bA w' i v:=by
 have t:aa [] w w':=aa.of_below hb (Nat.le_refl _)
 have hS:bC w [] []:=fun x hx=>by cases hx
 exact⟨t.blk h.vol (h.vol.ty.notin hS (by decide)),t.blk h.jour (h.jour.ty.notin hS (by decide)),t.blk h.space (h.space.ty.notin hS (by decide)),h.disk.turned t (jM h.disk hS (by decide)),t.blk h.index (h.index.ty.notin hS (by decide)),ak h.vers t (fun k hk=>(ap h.vers hk).notin hS (by decide)),ak h.sealed t (fun k hk=>(ap h.sealed hk).notin hS (by decide)),t.blk h.book (h.book.ty.notin hS (by decide)),t.blk h.bclock (h.bclock.ty.notin hS (by decide)),t.blk h.clock (h.clock.ty.notin hS (by decide)),h.maps.turned t (gq h.maps hS),h.two,h.rp⟩
def aV.foot (i:aV) (d:ao):List Nat:=[i.vb,i.jb,i.sb,i.xb,i.bb,i.c2,i.cb,i.m1,i.m2,i.m3]++(d.foot i.db++(i.xv.ownBlock.toList++i.sv.ownBlock.toList))
structure cC (w w':World) (i:aV) (v:bk) (i':aV) (v':bk):Prop where
 at':bA w' i' v'
 turned:aa (i.foot v.d) w w'
 foot:∀x,x∈i'.foot v'.d→x∈i.foot v.d∨w.heap.size≤x
theorem cC.refl {w:World} {i:aV} {v:bk} (h:bA w i v):cC w w i v i v:=⟨h,aa.refl _ _,fun _ hx=> .inl hx⟩
theorem cC.trans {w1 w2 w3:World} {i i' i'':aV} {v v' v'':bk} (h:cC w1 w2 i v i' v') (k:cC w2 w3 i' v' i'' v''):cC w1 w3 i v i'' v'':=
 ⟨k.at',h.turned.on k.turned h.foot,fun x hx=>(k.foot x hx).elim (fun h1=>h.foot x h1) (fun h1=> .inr (Nat.le_trans h.turned.size h1))⟩
theorem cC.below {w1 w2 w3:World} {i i':aV} {v v':bk} (h:cC w1 w2 i v i' v') (hb:Below w2.heap.size w2 w3):cC w1 w3 i v i' v':=
 ⟨h.at'.below hb,h.turned.trans (aa.of_below hb (Nat.le_refl _)),h.foot⟩
theorem cC.ahead {w1 w2 w3:World} {i i':aV} {v v':bk} (hb:Below w1.heap.size w1 w2) (h:cC w2 w3 i v i' v'):cC w1 w3 i v i' v':=
 ⟨h.at',(aa.of_below hb (Nat.le_refl _)).trans h.turned,fun x hx=>(h.foot x hx).elim .inl (fun h1=> .inr (Nat.le_trans hb.size h1))⟩
theorem bA.disk_to {w w':World} {i:aV} {v:bk} {d':ao} (h:bA w i v) (ht:aZ w w' i.db v.d d'):cC w w' i v i {v with d:=d'}:=by
 have t:=ht.turned
 have hS:=h.disk.tyIn
 refine⟨⟨t.blk h.vol (h.vol.ty.notin hS (by decide)),t.blk h.jour (h.jour.ty.notin hS (by decide)),t.blk h.space (h.space.ty.notin hS (by decide)),ht.at',t.blk h.index (h.index.ty.notin hS (by decide)),ak h.vers t (fun k hk=>(ap h.vers hk).notin hS (by decide)),ak h.sealed t (fun k hk=>(ap h.sealed hk).notin hS (by decide)),t.blk h.book (h.book.ty.notin hS (by decide)),t.blk h.bclock (h.bclock.ty.notin hS (by decide)),t.blk h.clock (h.clock.ty.notin hS (by decide)),h.maps.turned t (gq h.maps hS),h.two,h.rp⟩,t.mono (fun x hx=>by simp only[aV.foot,List.mem_append];exact .inr (.inl hx)),fun x hx=> ?_⟩
 simp only[aV.foot,List.mem_append]at hx ⊢
 rcases hx with hx|hx|hx
 ·exact .inl (.inl hx)
 ·exact(ht.foot x hx).imp (fun h=> .inr (.inl h)) id
 ·exact .inl (.inr (.inr hx))
theorem bA.jdisk {w w':World} {i:aV} {v:bk} {d':ao} {s:aE} (h:bA w i v) (t:aa (i.jb::v.d.foot i.db) w w') (hg:s.geo=v.last.geo) (hd:aD w' i.db d') (hj:ab w' i.jb (bE (.pointer (some ⟨i.sb,0,none⟩)) i.db s) 216) (hf:∀x,x∈d'.foot i.db→x∈v.d.foot i.db∨w.heap.size≤x):cC w w' i v i {v with d:=d',last:=s}:=by
 have hS:=bC.cons h.jour.ty h.disk.tyIn
 have hsp:ab w' i.sb (cn s.geo v.used) 320:=by rw[hg];exact t.blk h.space (h.space.ty.notin hS (by decide))
 refine⟨⟨t.blk h.vol (h.vol.ty.notin hS (by decide)),hj,hsp,hd,t.blk h.index (h.index.ty.notin hS (by decide)),ak h.vers t (fun k hk=>(ap h.vers hk).notin hS (by decide)),ak h.sealed t (fun k hk=>(ap h.sealed hk).notin hS (by decide)),t.blk h.book (h.book.ty.notin hS (by decide)),t.blk h.bclock (h.bclock.ty.notin hS (by decide)),t.blk h.clock (h.clock.ty.notin hS (by decide)),h.maps.turned t (gq h.maps hS),h.two,h.rp⟩,t.mono (fun x hx=> ?_),fun x hx=> ?_⟩
 ·simp only[aV.foot,List.mem_append]
  rcases List.mem_cons.1 hx with rfl|hx
  ·exact .inl (by simp)
  ·exact .inr (.inl hx)
 ·simp only[aV.foot,List.mem_append]at hx ⊢
  rcases hx with hx|hx|hx
  ·exact .inl (.inl hx)
  ·exact(hf x hx).imp (fun h=> .inr (.inl h)) id
  ·exact .inl (.inr (.inr hx))
theorem bA.take {w w':World} {i:aV} {v:bk} {n:Int} (h:bA w i v) (t:aa [i.sb] w w') (hs:ab w' i.sb (cn v.last.geo n) 320):cC w w' i v i {v with used:=n}:=by
 have hS:=bC.one h.space.ty
 exact⟨⟨t.blk h.vol (h.vol.ty.notin hS (by decide)),t.blk h.jour (h.jour.ty.notin hS (by decide)),hs,h.disk.turned t (jM h.disk hS (by decide)),t.blk h.index (h.index.ty.notin hS (by decide)),ak h.vers t (fun k hk=>(ap h.vers hk).notin hS (by decide)),ak h.sealed t (fun k hk=>(ap h.sealed hk).notin hS (by decide)),t.blk h.book (h.book.ty.notin hS (by decide)),t.blk h.bclock (h.bclock.ty.notin hS (by decide)),t.blk h.clock (h.clock.ty.notin hS (by decide)),h.maps.turned t (gq h.maps hS),h.two,h.rp⟩,t.mono (fun x hx=>by simp at hx;subst hx;simp[aV.foot]),fun x hx=> .inl hx⟩
theorem bA.closed {w w':World} {i:aV} {v:bk} {ep now:Int} (h:bA w i v) (t:aa [i.bb,i.c2] w w') (hb:ab w' i.bb (bD i.c2 v.first ep i.m1 i.m2 i.m3) 167) (hc:ab w' i.c2 [.bool true, .int .i64 now] 302):cC w w' i v i {v with epoch:=ep,now:=now}:=by
 have hS:=bC.cons h.book.ty (bC.one h.bclock.ty)
 have hcl:ab w' i.cb [.bool true, .int .i64 v.clock] 302:=t.blk h.clock (by
  intro hm
  simp at hm
  rcases hm with hm|hm
  ·exact absurd (show 302=167 from(hm ▸ h.clock.ty).eq h.book.ty) (by decide)
  ·exact h.two hm.symm)
 exact⟨⟨t.blk h.vol (h.vol.ty.notin hS (by decide)),t.blk h.jour (h.jour.ty.notin hS (by decide)),t.blk h.space (h.space.ty.notin hS (by decide)),h.disk.turned t (jM h.disk hS (by decide)),t.blk h.index (h.index.ty.notin hS (by decide)),ak h.vers t (fun k hk=>(ap h.vers hk).notin hS (by decide)),ak h.sealed t (fun k hk=>(ap h.sealed hk).notin hS (by decide)),hb,hc,hcl,h.maps.turned t (gq h.maps hS),h.two,h.rp⟩,t.mono (fun x hx=>by simp at hx;rcases hx with rfl|rfl<;>simp[aV.foot]),fun x hx=> .inl hx⟩
theorem bA.own {w w':World} {i:aV} {v:bk} {key:ByteArray} {sv:Value} {l:List aH} (h:bA w i v) (t:aa (i.vb::i.sv.ownBlock.toList) w w') (hv:ab w' i.vb (uv {i with sv:=sv} key v.data) 50) (hr:w'.ownsRow 0 27 9 sv l.length (gV l)) (hn:∀k,sv.ownBlock=some k→i.sv.ownBlock=some k∨w.heap.size≤k):cC w w' i v {i with sv:=sv} {v with key:=key,sealed:=l}:=by
 have hS:=bC.cons h.vol.ty (bC.own h.sealed)
 refine⟨⟨hv,t.blk h.jour (h.jour.ty.notin hS (by decide)),t.blk h.space (h.space.ty.notin hS (by decide)),h.disk.turned t (jM h.disk hS (by decide)),t.blk h.index (h.index.ty.notin hS (by decide)),ak h.vers t (fun k hk=>(ap h.vers hk).notin hS (by decide)),hr,t.blk h.book (h.book.ty.notin hS (by decide)),t.blk h.bclock (h.bclock.ty.notin hS (by decide)),t.blk h.clock (h.clock.ty.notin hS (by decide)),h.maps.turned t (gq h.maps hS),h.two,h.rp⟩,t.mono (fun x hx=> ?_),fun x hx=> ?_⟩
 ·rcases List.mem_cons.1 hx with rfl|hx
  ·simp[aV.foot]
  ·simp only[aV.foot,List.mem_append];exact .inr (.inr (.inr hx))
 ·simp only[aV.foot,List.mem_append]at hx ⊢
  rcases hx with hx|hx|hx|hx
  ·exact .inl (.inl hx)
  ·exact .inl (.inr (.inl hx))
  ·exact .inl (.inr (.inr (.inl hx)))
  ·exact(hn x (by simpa using hx)).imp (fun h=> .inr (.inr (.inr (by simpa using h)))) id
def pQ (key data:ByteArray) (gen clock n lbas first ep:Int) (d:ao):bk:=⟨key,data,⟨gen,0,ep,clock,⟨n,lbas,first⟩⟩,0,[],[],first,ep,0,clock, .map [], .map [], .map [],0,d⟩
def nU (vb jb sb db xb bb cb c2 m1 m2 m3:Nat) (ro:Option Addr):aV:=⟨vb,jb,sb,db,xb,bb,c2,cb,m1,m2,m3, .slice none 0 0, .slice none 0 0, .pointer ro⟩
theorem eP.at {w:World} {lo vb jb sb db xb bb cb c2 m1 m2 m3:Nat} {ro:Option Addr} {key data:ByteArray} {gen clock n lbas first ep:Int} {d:ao} (h:eP w lo vb jb sb db xb bb cb c2 m1 m2 m3 ro key data gen clock n lbas first ep d):bA w (nU vb jb sb db xb bb cb c2 m1 m2 m3 ro) (pQ key data gen clock n lbas first ep d):=
 ⟨h.vol,h.jour,h.space,h.disk,h.index,World.ownsRow_nil w 0 181 3,World.ownsRow_nil w 0 27 9,h.book,h.bclock,h.clock,h.maps,by show c2≠cb;have:=h.o;omega,ro,rfl⟩
theorem eP.foot_ge {w:World} {lo lo' vb jb sb db xb bb cb c2 m1 m2 m3:Nat} {ro:Option Addr} {key data:ByteArray} {gen clock n lbas first ep:Int} {d:ao} (h:eP w lo vb jb sb db xb bb cb c2 m1 m2 m3 ro key data gen clock n lbas first ep d) (hl:lo'≤lo) (hd:∀x,x∈d.foot db→lo'≤x):∀x,x∈(nU vb jb sb db xb bb cb c2 m1 m2 m3 ro).foot d→lo'≤x:=by
 intro x hx
 have ho:=h.o
 have hm:=h.om
 simp only[aV.foot,nU,Value.ownBlock,List.mem_append,List.mem_cons,List.not_mem_nil,or_false,Option.mem_toList,Option.mem_def]at hx
 rcases hx with(rfl|rfl|rfl|rfl|rfl|rfl|rfl|rfl|rfl|rfl)|hx|hx|hx<;>first|omega|exact hd x hx|cases hx
structure Calm (d:ao) (n m:Nat):Prop where
 up:d.down=false
 left:d.left=0
 len:d.bs.length=n
 hin:∀(j:Nat) p,d.cs[j]?=some p→0≤p.1∧p.1<d.bs.length
 few:d.cs.length≤m
theorem Calm.mono {d:ao} {n m m':Nat} (h:Calm d n m) (hm:m≤m'):Calm d n m':=⟨h.up,h.left,h.len,h.hin,Nat.le_trans h.few hm⟩
theorem Calm.put {d:ao} {n m:Nat} (h:Calm d n m) {i:Int} (h0:0≤i) (h1:i<n) (cv:Value) (s:ByteArray):Calm {d with cv:=cv,cs:=d.cs++[(i,s)]} n (m+1):=by
 refine⟨h.up,h.left,h.len,fun j p hj=> ?_,by simp only[List.length_append,List.length_cons,List.length_nil];have:=h.few;omega⟩
 simp only at hj ⊢
 by_cases hjl:j<d.cs.length
 ·rw[List.getElem?_append_left hjl]at hj;exact h.hin j p hj
 ·rw[List.getElem?_append_right (by omega)]at hj
  have:j-d.cs.length=0:=by
   rcases Nat.eq_zero_or_pos (j-d.cs.length)with h2|h2
   ·exact h2
   ·rw[List.getElem?_eq_none (by simp;omega)]at hj;cases hj
  rw[this]at hj
  simp at hj
  subst hj
  exact⟨h0,by simp only;rw[h.len];exact h1⟩
theorem Calm.flushed {d:ao} {n m:Nat} (h:Calm d n m):Calm d.flushed n 0:=
 ⟨h.up,h.left,by show(fi d.bs d.cs d.cs.length).length=n;rw[dE];exact h.len,fun j p hj=>by simp[ao.flushed]at hj,Nat.le_refl _⟩
theorem qQ (jb db g c N m:Nat) (p3a p4a p5a:Nat) (ia:Int) (sa:ByteArray) (p3b p4b p5b:Nat) (ib:Int) (sb:ByteArray) (t:TypeId) (d:ao) (w:World) (h:aD w db d) (hrow:ab w g [.func (.func 213) #[] #[.pointer (some ⟨p3a,0,none⟩), .pointer (some ⟨p4a,0,none⟩), .pointer (some ⟨p5a,0,none⟩)], .func (.func 213) #[] #[.pointer (some ⟨p3b,0,none⟩), .pointer (some ⟨p4b,0,none⟩), .pointer (some ⟨p5b,0,none⟩)], .func (.func 124) #[.pointer (some ⟨db,0,none⟩)] #[]] t) (hj:w.cell? ⟨jb,1,none⟩=some (.pointer (some ⟨db,0,none⟩))) (hjl:jb<w.heap.size) (hsta:eZ w jb p3a p4a p5a ia sa) (hstb:eZ w jb p3b p4b p5b ib sb)
  (hn:∀x,x=g∨x=jb∨x=p3a∨x=p4a∨x=p5a∨x=p3b∨x=p4b∨x=p5b→x∉d.foot db)
  (hcm:Calm d N m) (hm:m+2≤4096) (hN:N≤1024) (hia:0≤ia∧ia<(N:Int)) (hsa:sa.size=4096) (hib:0≤ib∧ib<(N:Int)) (hsb:sb.size=4096):
  Calls Tryz.prog 120 #[.pointer (some ⟨jb,0,none⟩), .slice (some ⟨g,0,none⟩) 3 c] w fun e w'=>e= .returned (.int .i64 0)∧∃d',d'=({d with cs:=d.cs++[(ia,sa)]++[(ib,sb)]}:ao).flushed∧aZ w w' db d d':=by
 have HH:=Lib.hid h
 have HR:=Lib.hid hrow
 have HJ:=Lib.hid hj
 have HSTa:=Lib.hid hsta
 have HIa:=Lib.hid hia
 have HSa:=Lib.hid hsa
 have HSTb:=Lib.hid hstb
 have HIb:=Lib.hid hib
 have HSb:=Lib.hid hsb
 have HN:=Lib.hid hn
 have HCM:=Lib.hid hcm
 have HMM:=Lib.hid (And.intro hm hN)
 have HJL:=Lib.hid hjl
 clear h hrow hj hn hcm hm hN hjl hsta hia hsa hstb hib hsb
 go_enter Tryz.func120,Tryz.ntmps120
 go_wp2_with fail
 go_loopw [10] (fun v wr=>∃(k:Nat) (d':ao),k≤3∧v= .int .i64 k∧((k=0→d'=d)∧(k=1→(∃cv,d'={d with cv:=cv,cs:=d.cs++[(ia,sa)]}))∧(k=2→(∃cv,d'={d with cv:=cv,cs:=d.cs++[(ia,sa)]++[(ib,sb)]}))∧(k=3→d'=({d with cs:=d.cs++[(ia,sa)]++[(ib,sb)]}:ao).flushed))∧Calm d' N (m+2)∧(k=0→Calm d' N m)∧(k=1→Calm d' N (m+1))∧(k=2→Calm d' N (m+2))∧aZ w wr db d d') (fun v _=>3-(intOf v).toNat)
 case atStart=>exact⟨0,d,by omega,rfl,⟨fun _=>rfl,fun h=>(by cases h),fun h=>(by cases h),fun h=>(by cases h)⟩,HCM.out.mono (by omega),fun _=>HCM.out,fun h=>(by cases h),fun h=>(by cases h),aZ.refl HH.out⟩
 case round=>
  obtain⟨k,d',hk,rfl,hstage,hca,hc0,hc1,wI,hto⟩:=hrel
  have HT:=Lib.hid hto
  have HSG:=Lib.hid hstage
  have HCA:=Lib.hid hca
  have HC0:=Lib.hid hc0
  have HC1:=Lib.hid hc1
  have HC2:=Lib.hid wI
  clear hto hstage hca hc0 hc1 wI
  have HRr:=Lib.hid (HT.out.turned.blk HR.out (HN.out g (by simp)))
  have HJr:=Lib.hid (show wr.cell? ⟨jb,1,none⟩=some (.pointer (some ⟨db,0,none⟩)) by rw[HT.out.turned.cell HJL.out (HN.out jb (by simp))];exact HJ.out)
  have HSTra:=Lib.hid (HSTa.out.turned HT.out.turned (HN.out p3a (by simp)) (HN.out p4a (by simp)) (HN.out p5a (by simp)))
  have HSTrb:=Lib.hid (HSTb.out.turned HT.out.turned (HN.out p3b (by simp)) (HN.out p4b (by simp)) (HN.out p5b (by simp)))
  match k,hk with
  |0,hk=>
   have ck:=HRr.out.cell (i:=0) rfl
   go_wp2_with fail
   obtain rfl:d'=d:=HSG.out.1 (by trivial)
   refine(fU jb db p3a p4a p5a _ ia sa _ HT.out.at' HJr.out HSTra.out HCA.out.up HCA.out.left (by have:=(HC0.out (by trivial)).few;have:=HMM.out.1;omega) HIa.out.1 (by rw[HCA.out.len];exact HIa.out.2) HSa.out).mono ?_
   rintro e w2 ⟨rfl,cv',ht⟩
   have HT2:=Lib.hid ht
   clear ht
   go_wp2_with fail
   go_roundw
   case rel=>exact⟨1,_,by omega,rfl,⟨fun h=>(by cases h),fun _=>⟨cv',rfl⟩,fun h=>(by cases h),fun h=>(by cases h)⟩,((HC0.out (by trivial)).put HIa.out.1 HIa.out.2 cv' sa).mono (by omega),fun h=>(by cases h),fun _=>((HC0.out (by trivial)).put HIa.out.1 HIa.out.2 cv' sa),fun h=>(by cases h),HT.out.trans HT2.out⟩
   case measure=>simp[intOf]
  |1,hk=>
   have ck:=HRr.out.cell (i:=1) rfl
   go_wp2_with fail
   obtain⟨cv0,rfl⟩:=HSG.out.2.1 (by trivial)
   refine(fU jb db p3b p4b p5b _ ib sb _ HT.out.at' HJr.out HSTrb.out HCA.out.up HCA.out.left (by have:=(HC1.out (by trivial)).few;have:=HMM.out.1;omega) HIb.out.1 (by rw[HCA.out.len];exact HIb.out.2) HSb.out).mono ?_
   rintro e w2 ⟨rfl,cv',ht⟩
   have HT2:=Lib.hid ht
   clear ht
   go_wp2_with fail
   go_roundw
   case rel=>exact⟨2,_,by omega,rfl,⟨fun h=>(by cases h),fun h=>(by cases h),fun _=>⟨cv',rfl⟩,fun h=>(by cases h)⟩,((HC1.out (by trivial)).put HIb.out.1 HIb.out.2 cv' sb).mono (by omega),fun h=>(by cases h),fun h=>(by cases h),fun _=>((HC1.out (by trivial)).put HIb.out.1 HIb.out.2 cv' sb),HT.out.trans HT2.out⟩
   case measure=>simp[intOf]
  |2,hk=>
   have ck:=HRr.out.cell (i:=2) rfl
   go_wp2_with fail
   obtain⟨cv0,rfl⟩:=HSG.out.2.2.1 (by trivial)
   refine(gQ db _ _ HT.out.at' HCA.out.up HCA.out.left (by have:=HCA.out.few;have:=HMM.out.1;omega) (by have:=HCA.out.len;have:=HMM.out.2;omega) HCA.out.hin).mono ?_
   rintro e w2 ⟨rfl,ht⟩
   have HT2:=Lib.hid ht
   clear ht
   go_wp2_with fail
   go_roundw
   case rel=>exact⟨3,_,by omega,rfl,⟨fun h=>(by cases h),fun h=>(by cases h),fun h=>(by cases h),fun _=>rfl⟩,HCA.out.flushed.mono (Nat.zero_le _),fun h=>(by cases h),fun h=>(by cases h),fun h=>(by cases h),HT.out.trans HT2.out⟩
   case measure=>simp[intOf]
  |3,hk=>
   go_wp2_with fail
   go_ret
   first
    |exact⟨rfl,d',HSG.out.2.2.2 (by trivial),HT.out⟩
    |(have he:=HSG.out.2.2.2 (by trivial);subst he;first|exact⟨rfl,HT.out⟩|exact⟨rfl,by have ht:=HT.out;simp only[List.append_assoc,List.cons_append,List.nil_append]at ht;exact ht⟩)
theorem sC (jb db g c N m:Nat) (p3a p4a p5a:Nat) (ia:Int) (sa:ByteArray) (t:TypeId) (d:ao) (w:World) (h:aD w db d) (hrow:ab w g [.func (.func 213) #[] #[.pointer (some ⟨p3a,0,none⟩), .pointer (some ⟨p4a,0,none⟩), .pointer (some ⟨p5a,0,none⟩)], .func (.func 124) #[.pointer (some ⟨db,0,none⟩)] #[]] t) (hj:w.cell? ⟨jb,1,none⟩=some (.pointer (some ⟨db,0,none⟩))) (hjl:jb<w.heap.size) (hsta:eZ w jb p3a p4a p5a ia sa)
  (hn:∀x,x=g∨x=jb∨x=p3a∨x=p4a∨x=p5a→x∉d.foot db)
  (hcm:Calm d N m) (hm:m+1≤4096) (hN:N≤1024) (hia:0≤ia∧ia<(N:Int)) (hsa:sa.size=4096):
  Calls Tryz.prog 120 #[.pointer (some ⟨jb,0,none⟩), .slice (some ⟨g,0,none⟩) 2 c] w fun e w'=>e= .returned (.int .i64 0)∧∃d',d'=({d with cs:=d.cs++[(ia,sa)]}:ao).flushed∧aZ w w' db d d':=by
 have HH:=Lib.hid h
 have HR:=Lib.hid hrow
 have HJ:=Lib.hid hj
 have HSTa:=Lib.hid hsta
 have HIa:=Lib.hid hia
 have HSa:=Lib.hid hsa
 have HN:=Lib.hid hn
 have HCM:=Lib.hid hcm
 have HMM:=Lib.hid (And.intro hm hN)
 have HJL:=Lib.hid hjl
 clear h hrow hj hn hcm hm hN hjl hsta hia hsa
 go_enter Tryz.func120,Tryz.ntmps120
 go_wp2_with fail
 go_loopw [10] (fun v wr=>∃(k:Nat) (d':ao),k≤2∧v= .int .i64 k∧((k=0→d'=d)∧(k=1→(∃cv,d'={d with cv:=cv,cs:=d.cs++[(ia,sa)]}))∧(k=2→d'=({d with cs:=d.cs++[(ia,sa)]}:ao).flushed))∧Calm d' N (m+1)∧(k=0→Calm d' N m)∧(k=1→Calm d' N (m+1))∧aZ w wr db d d') (fun v _=>2-(intOf v).toNat)
 case atStart=>exact⟨0,d,by omega,rfl,⟨fun _=>rfl,fun h=>(by cases h),fun h=>(by cases h)⟩,HCM.out.mono (by omega),fun _=>HCM.out,fun h=>(by cases h),aZ.refl HH.out⟩
 case round=>
  obtain⟨k,d',hk,rfl,hstage,hca,hc0,hc1,hto⟩:=hrel
  have HT:=Lib.hid hto
  have HSG:=Lib.hid hstage
  have HCA:=Lib.hid hca
  have HC0:=Lib.hid hc0
  have HC1:=Lib.hid hc1
  clear hto hstage hca hc0 hc1
  have HRr:=Lib.hid (HT.out.turned.blk HR.out (HN.out g (by simp)))
  have HJr:=Lib.hid (show wr.cell? ⟨jb,1,none⟩=some (.pointer (some ⟨db,0,none⟩)) by rw[HT.out.turned.cell HJL.out (HN.out jb (by simp))];exact HJ.out)
  have HSTra:=Lib.hid (HSTa.out.turned HT.out.turned (HN.out p3a (by simp)) (HN.out p4a (by simp)) (HN.out p5a (by simp)))
  match k,hk with
  |0,hk=>
   have ck:=HRr.out.cell (i:=0) rfl
   go_wp2_with fail
   obtain rfl:d'=d:=HSG.out.1 (by trivial)
   refine(fU jb db p3a p4a p5a _ ia sa _ HT.out.at' HJr.out HSTra.out HCA.out.up HCA.out.left (by have:=(HC0.out (by trivial)).few;have:=HMM.out.1;omega) HIa.out.1 (by rw[HCA.out.len];exact HIa.out.2) HSa.out).mono ?_
   rintro e w2 ⟨rfl,cv',ht⟩
   have HT2:=Lib.hid ht
   clear ht
   go_wp2_with fail
   go_roundw
   case rel=>exact⟨1,_,by omega,rfl,⟨fun h=>(by cases h),fun _=>⟨cv',rfl⟩,fun h=>(by cases h)⟩,((HC0.out (by trivial)).put HIa.out.1 HIa.out.2 cv' sa).mono (by omega),fun h=>(by cases h),fun _=>((HC0.out (by trivial)).put HIa.out.1 HIa.out.2 cv' sa),HT.out.trans HT2.out⟩
   case measure=>simp[intOf]
  |1,hk=>
   have ck:=HRr.out.cell (i:=1) rfl
   go_wp2_with fail
   obtain⟨cv0,rfl⟩:=HSG.out.2.1 (by trivial)
   refine(gQ db _ _ HT.out.at' HCA.out.up HCA.out.left (by have:=HCA.out.few;have:=HMM.out.1;omega) (by have:=HCA.out.len;have:=HMM.out.2;omega) HCA.out.hin).mono ?_
   rintro e w2 ⟨rfl,ht⟩
   have HT2:=Lib.hid ht
   clear ht
   go_wp2_with fail
   go_roundw
   case rel=>exact⟨2,_,by omega,rfl,⟨fun h=>(by cases h),fun h=>(by cases h),fun _=>rfl⟩,HCA.out.flushed.mono (Nat.zero_le _),fun h=>(by cases h),fun h=>(by cases h),HT.out.trans HT2.out⟩
   case measure=>simp[intOf]
  |2,hk=>
   go_wp2_with fail
   go_ret
   first
    |exact⟨rfl,d',HSG.out.2.2 (by trivial),HT.out⟩
    |(have he:=HSG.out.2.2 (by trivial);subst he;first|exact⟨rfl,HT.out⟩|exact⟨rfl,by have ht:=HT.out;simp only[List.append_assoc,List.cons_append,List.nil_append]at ht;exact ht⟩)
end Go.Proofs.YtgimkmclgjfddaaGreat
