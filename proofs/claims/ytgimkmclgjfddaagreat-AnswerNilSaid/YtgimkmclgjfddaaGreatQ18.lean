/- A ring that is none (chapter 26): a record's tag, the next key. Walks of receipt.may, Make, Of and the documents' Few, Right, Make, Last (chapters 19, 20, 21). Walks of receipt.Make and the documents' Make (chapter 21). Walks of receipt.Of, Forge, All (chapter 21). -/
import Derived.Test.YtgimkmclgjfddaaGreatQ16
import Derived.Test.YtgimkmclgjfddaaGreatQ9
import Derived.Test.YtgimkmclgjfddaaGreatQ17
import Derived.Test.YtgimkmclgjfddaaGreatQ15
import Derived.Deep.RegionHeld3
import Derived.Deep.RegionWith
import Derived.Deep.MidRow
import Derived.Laws.ResultCell
import Derived.Deep.QuietTactic
import Derived.BigQuiet
import Derived.Test.YtgimkmclgjfddaaGreatQ2
import Derived.Test.YtgimkmclgjfddaaGreatQ11
import Derived.OrdersHeld
set_option linter.unusedSimpArgs false
set_option linter.unusedVariables false
set_option maxRecDepth 100000
set_option maxHeartbeats 4000000
namespace Go.Proofs.YtgimkmclgjfddaaGreat
open Go Go.RowKit
theorem sF (n:Int) (key:ByteArray) (w:World) (hk:key.size=32):
  Calls Tryz.prog 146 #[.pointer none, .int .i64 n, .string key] w fun e w'=>(∃s,e= .returned (.string s)∧aj s (eJ key.data.toList [110,101,120,116] []))∧Below w.heap.size w w':=by
 have HK:=Lib.hid hk
 clear hk
 go_enter Tryz.func146,Tryz.ntmps146
 go_wp2_with fail
 refine(vY key _).mono ?_
 rintro e w1 ⟨he,hb1⟩
 obtain⟨s,rfl,ts⟩:=he.yes HK.out
 have HTS:=Lib.hid ts
 have HB1:=Lib.hid hb1
 clear ts hb1 he
 go_wp2_with fail
 go_ret
 exact⟨⟨s,rfl,HTS.out⟩,HB1.out⟩
theorem uS (key was:ByteArray) (seq:Int) (r:Rec) (w:World) (hk:key.size=32) (hok:fJ was seq r) (hroot:r.root.size≤1048576) (hname:r.name.size≤1048576) (hf:Fits r.epoch) (hs:Fits seq):
  Calls Tryz.prog 255 #[.pointer none, .string key, .string was, .int .i64 seq,r.v] w fun e w'=>(∃s,e= .returned (.string s)∧aj s (pi key.data.toList was.data.toList seq r))∧Below w.heap.size w w':=by
 have HK:=Lib.hid (show key.size=32∧fJ was seq r from⟨hk,hok⟩)
 have HF:=Lib.hid (show(r.root.size≤1048576∧r.name.size≤1048576)∧Fits r.epoch∧Fits seq from⟨⟨hroot,hname⟩,hf,hs⟩)
 clear hk hok hroot hname hf hs
 go_enter Tryz.func255,Tryz.ntmps255
 go_upto_region 1 with(first
  |((with_reducible refine ag 25 (.tmp 4) r.cells (some 9) ?hgd ?ho ?hd ?hx ?_);(case hgd|ho|hd|hx=>rfl);(intro b w0 l0 B0 e0 z0))
  |fail)
 have HB0:=Lib.hid B0
 have HBE0:=Lib.hid (e0.mono l0)
 clear B0 e0 l0 z0
 go_region
 have HBd:=Lib.hid HB0.out.drew
 have HBEd:=Lib.hid HBE0.out.drew
 obtain⟨wd,hwd⟩:∃wd,wd=w0.drew:=⟨_,rfl⟩
 rw[←hwd]at HBd HBEd
 rw[←hwd]
 clear hwd HB0 HBE0
 go_wp2_with (first
  |((with_reducible refine ar 25 (.tmp 9) b r.cells 25 _ HBd.out Tryz.underlying25 rfl aI ?hgd ?ho ?hx ?_);(case hgd|ho|hx=>rfl))
  |fail)
 refine(AZ key was seq r _ HF.out.1.1 HF.out.1.2 HF.out.2.1 HF.out.2.2).mono ?_
 rintro e w1 ⟨he,hb1⟩
 obtain⟨s,rfl,ts⟩:=he.yes HK.out
 have HTS:=Lib.hid ts
 have HB1:=Lib.hid (HBEd.out.trans (hb1.mono HBEd.out.size))
 clear ts hb1 he
 go_wp2_with fail
 go_ret
 exact⟨⟨s,rfl,HTS.out⟩,HB1.out⟩
structure aK where
 seq:Int
 r:Rec
 was:ByteArray
 tag:ByteArray
def aK.cells (x:aK):List Value:=[.int .i64 x.seq, .int .i64 x.r.kind, .int .i64 x.r.epoch, .int .i64 x.r.time, .int .i64 x.r.count, .int .i64 x.r.target, .int .i64 x.r.till, .string x.r.root, .string x.r.name, .string x.was, .string x.tag]
def aK.v (x:aK):Value:= .agg #[.int .i64 x.seq, .int .i64 x.r.kind, .int .i64 x.r.epoch, .int .i64 x.r.time, .int .i64 x.r.count, .int .i64 x.r.target, .int .i64 x.r.till, .string x.r.root, .string x.r.name, .string x.was, .string x.tag]
def aK.zero:aK:=⟨0,Rec.zero,⟨#[]⟩,⟨#[]⟩⟩
def cD (x:aK):Bool:=decide (0≤x.seq)&&decide (x.seq≤4294967295)&&am x.r&&decide (x.r.kind=1)&&decide ((x.was.size:Int)=32)&&decide ((x.tag.size:Int)=32)
def cE (l:List aH):ByteArray:=match l.getLast? with|none=>⟨(List.replicate 32 (0:UInt8)).toArray⟩|some x=>x.tag
theorem aj.eqB {p:ByteArray} {l:List UInt8} (h:aj p l):p=⟨l.toArray⟩:=by
 have h1:p.data.toList=l:=h
 rw[←h1]
theorem bf {x:aK}:(Tryz.prog.info? 37).map (·.size)=some x.cells.length:=by kernel_rfl
theorem tC {a b:ByteArray} (h:a=b):Ending.returned (.string a)= .returned (.string b):=by rw[h]
structure du (w:World) (b:Nat) (x:aK):Prop where
 lt:b<w.heap.size
 at_:∀(i:Nat) (u:Value),x.cells[i]?=some u→w.cell? ⟨b,i,none⟩=some u
theorem du.below {w w':World} {b:Nat} {x:aK} (h:du w b x) {B:Nat} (hb:Below B w w') (hB:b<B):du w' b x:=
 ⟨by have:=hb.size;have:=h.lt;omega,fun i u hu=>by rw[hb.cell (by exact hB)];exact h.at_ i u hu⟩
theorem du.blk {w:World} {b:Nat} {x:aK} {t:TypeId} (h:ab w b x.cells t):du w b x:=⟨h.lt,fun i u hu=>h.cell hu⟩
theorem du.cells_ {w:World} {b:Nat} {x:aK} (h:du w b x):
  w.cell? ⟨b,0,none⟩=some (.int .i64 x.seq)∧w.cell? ⟨b,1,none⟩=some (.int .i64 x.r.kind)∧w.cell? ⟨b,2,none⟩=some (.int .i64 x.r.epoch)∧w.cell? ⟨b,3,none⟩=some (.int .i64 x.r.time)∧w.cell? ⟨b,4,none⟩=some (.int .i64 x.r.count)∧
  w.cell? ⟨b,5,none⟩=some (.int .i64 x.r.target)∧w.cell? ⟨b,6,none⟩=some (.int .i64 x.r.till)∧w.cell? ⟨b,7,none⟩=some (.string x.r.root)∧w.cell? ⟨b,8,none⟩=some (.string x.r.name)∧w.cell? ⟨b,9,none⟩=some (.string x.was)∧w.cell? ⟨b,10,none⟩=some (.string x.tag):=
 ⟨h.at_ 0 _ rfl,h.at_ 1 _ rfl,h.at_ 2 _ rfl,h.at_ 3 _ rfl,h.at_ 4 _ rfl,h.at_ 5 _ rfl,h.at_ 6 _ rfl,h.at_ 7 _ rfl,h.at_ 8 _ rfl,h.at_ 9 _ rfl,h.at_ 10 _ rfl⟩
theorem mh (x:aK) (w:World) (hname:x.r.name.size≤1073741824) (hf:Fits x.r.epoch) (hs:Fits x.seq):
  Calls Tryz.prog 105 #[x.v] w fun e w'=>e= .returned (.bool (cD x))∧Below w.heap.size w w':=by
 by_cases c1:0≤x.seq∧x.seq≤4294967295
 ·have HC:=Lib.hid c1;clear c1
  go_enter Tryz.func105,Tryz.ntmps105
  go_wp2_with ((with_reducible refine ag 37 (.tmp 0) x.cells (some 1) ?hgd ?ho ?hd ?hx ?_);(case hgd|ho|hd|hx=>rfl);(intro b w0 l0 B0 e0 z0;have R0:=Lib.hid (du.blk B0);obtain⟨a0,a1,a2,a3,a4,a5,a6,a7,a8,a9,aA⟩:=R0.out.cells_))
  clear a0 a1 a2 a3 a4 a5 a6 a7 a8 a9 aA
  refine(gp x.seq _ hs).mono ?_
  rintro e w1 ⟨he,hb1⟩
  obtain⟨q,rfl,tq⟩:=he.yes HC.out
  have R1:=Lib.hid (R0.out.below hb1 z0)
  obtain⟨a0,a1,a2,a3,a4,a5,a6,a7,a8,a9,aA⟩:=R1.out.cells_
  go_wp2_with fail
  clear a0 a1 a2 a3 a4 a5 a6 a7 a8 a9 aA
  refine(gn x.r _ hname hf).mono ?_
  rintro e w2 ⟨rfl,hb2⟩
  have R2:=Lib.hid (R1.out.below hb2 R1.out.lt)
  obtain⟨a0,a1,a2,a3,a4,a5,a6,a7,a8,a9,aA⟩:=R2.out.cells_
  have hbw:=(e0.mono l0).trans ((bt hb1 hb2).mono (by have:=e0.size;omega))
  cases hok:am x.r with
  |true=>
   rw[ki hok]
   have HK:=Lib.hid hok;clear hok
   go_wp2_with fail
   all_goals(go_ret;refine⟨bp ?_,hbw⟩;have k1:=HC.out;have k2:=HK.out;simp only[cD,k2,Bool.and_true];first|(simp[*];done)|(simp[*];intros;omega)|(rw[Bool.eq_iff_iff];simp;omega))
  |false=>
   rw[nS hok]
   have HK:=Lib.hid hok;clear hok
   go_wp2_with fail
   all_goals(go_ret;refine⟨bp ?_,hbw⟩;have k2:=HK.out;simp only[cD,k2,Bool.and_false,Bool.false_and])
 ·have HC:=Lib.hid c1;clear c1
  go_enter Tryz.func105,Tryz.ntmps105
  go_wp2_with ((with_reducible refine ag 37 (.tmp 0) x.cells (some 1) ?hgd ?ho ?hd ?hx ?_);(case hgd|ho|hd|hx=>rfl);(intro b w0 l0 B0 e0 z0;have R0:=Lib.hid (du.blk B0);obtain⟨a0,a1,a2,a3,a4,a5,a6,a7,a8,a9,aA⟩:=R0.out.cells_))
  clear a0 a1 a2 a3 a4 a5 a6 a7 a8 a9 aA
  refine(gp x.seq _ hs).mono ?_
  rintro e w1 ⟨he,hb1⟩
  obtain rfl:=he.no HC.out
  have R1:=Lib.hid (R0.out.below hb1 z0)
  obtain⟨a0,a1,a2,a3,a4,a5,a6,a7,a8,a9,aA⟩:=R1.out.cells_
  have hbw:=(e0.mono l0).trans (hb1.mono (by have:=e0.size;omega))
  go_wp2_with fail
  all_goals(go_ret;refine⟨bp ?_,hbw⟩;have k1:=HC.out;simp only[cD,←Bool.decide_and,k1];simp)
def jD (r:Rec):Bool:=decide ((r.root.size:Int)≤5000)&&decide ((r.name.size:Int)≤5000)
def iD (x:aK):Bool:=jD x.r&&decide ((x.was.size:Int)≤1000)&&decide ((x.tag.size:Int)≤1000)
theorem gv (r:Rec) (w:World):
  Calls Tryz.prog 11 #[r.v] w fun e w'=>e= .returned (.bool (jD r))∧Below w.heap.size w w':=by
 go_enter Tryz.func11,Tryz.ntmps11
 go_wp2_with ((with_reducible refine ag 25 (.tmp 0) r.cells (some 1) ?hgd ?ho ?hd ?hx ?_);(case hgd|ho|hd|hx=>rfl);(intro b w0 l0 B0 e0 z0;have R0:=dN.blk B0;have c6:=R0.c6;have c7:=R0.c7))
 all_goals(go_ret;refine⟨bp ?_,e0.mono l0⟩;simp only[jD];simp[*];try(intros;omega))
theorem mi (x:aK) (w:World):
  Calls Tryz.prog 12 #[x.v] w fun e w'=>e= .returned (.bool (iD x))∧Below w.heap.size w w':=by
 go_enter Tryz.func12,Tryz.ntmps12
 go_wp2_with ((with_reducible refine ag 37 (.tmp 0) x.cells (some 1) ?hgd ?ho ?hd ?hx ?_);(case hgd|ho|hd|hx=>rfl);(intro b w0 l0 B0 e0 z0;have R0:=Lib.hid (du.blk B0);obtain⟨a0,a1,a2,a3,a4,a5,a6,a7,a8,a9,aA⟩:=R0.out.cells_))
 clear a0 a1 a2 a3 a4 a5 a6 a7 a8 a9 aA
 refine(gv x.r _).mono ?_
 rintro e w1 ⟨rfl,hb1⟩
 have R1:=Lib.hid (R0.out.below hb1 z0)
 obtain⟨a0,a1,a2,a3,a4,a5,a6,a7,a8,a9,aA⟩:=R1.out.cells_
 have hbw:=(e0.mono l0).trans (hb1.mono (by have:=e0.size;omega))
 cases hok:jD x.r with
 |true=>
  have HK:=Lib.hid hok;clear hok
  go_wp2_with fail
  all_goals(go_ret;refine⟨bp ?_,hbw⟩;have k2:=HK.out;simp only[iD,k2];simp[*];try(intros;omega))
 |false=>
  have HK:=Lib.hid hok;clear hok
  go_wp2_with fail
  all_goals(go_ret;refine⟨bp ?_,hbw⟩;have k2:=HK.out;simp only[iD,k2,Bool.false_and])
theorem pY (v:Value) (l:List aH) (w:World) (h:de w v l) (hl:l.length≤1048576):
  Calls Tryz.prog 43 #[v] w fun e w'=>e= .returned (.string (cE l))∧Below w.heap.size w w':=by
 by_cases h0:l=[]
 ·subst h0
  obtain⟨a,c,rfl⟩:=h.shape
  clear h
  go_enter Tryz.func43,Tryz.ntmps43
  go_wp2_with fail
  refine(yV _).mono ?_
  rintro e w1 ⟨p,rfl,tp,hb1⟩
  go_wp2_with fail
  go_ret
  exact⟨tC (tp.eqB),hb1⟩
 ·rcases h with⟨rfl,_⟩|⟨g,o,c,rfl,hcap,hg,hat⟩
  ·exact absurd rfl h0
  obtain⟨n,hn⟩:∃n,n=l.length:=⟨_,rfl⟩
  have hpos:0<n:=by rw[hn];exact List.length_pos_iff.2 h0
  obtain⟨x,hx⟩:∃x,l[n-1]?=some x:=⟨_,List.getElem?_eq_getElem (by omega)⟩
  have c8:w.cell? ⟨g,o+(n-1)*9+8,none⟩=some (.string x.tag):=hat _ x hx 8 _ rfl
  have hlast:cE l=x.tag:=by
   unfold cE
   rw[List.getLast?_eq_getElem?,←hn,hx]
  have HL:=Lib.hid hlast
  have k1:(0:Int)≤(n:Int)-1:=by omega
  have k2:(n:Int)-1<n:=by omega
  have k3:¬((n:Int)=0):=by omega
  have k4:(n:Int)≤1048576:=by omega
  clear hat hx h0 hlast
  rw[←hn]
  rw[←hn]at hcap
  clear hn hl
  go_enter Tryz.func43,Tryz.ntmps43
  go_wp2_with fail
  go_ret
  exact⟨tC HL.out.symm,Below.refl _ _⟩
theorem zl (v:Value) (l:List aH) (w:World) (h:de w v l) (hl:l.length≤1048576):
  Calls Tryz.prog 170 #[v] w fun e w'=>e= .returned (.string (cE l))∧Below w.heap.size w w':=by
 by_cases h0:l=[]
 ·subst h0
  obtain⟨a,c,rfl⟩:=h.shape
  clear h
  go_enter Tryz.func170,Tryz.ntmps170
  go_wp2_with fail
  refine(gd 32 _ (by omega) (by omega)).mono ?_
  rintro e w1 ⟨p,rfl,tp,hb1⟩
  go_wp2_with fail
  go_ret
  exact⟨tC (tp.eqB),hb1⟩
 ·rcases h with⟨rfl,_⟩|⟨g,o,c,rfl,hcap,hg,hat⟩
  ·exact absurd rfl h0
  obtain⟨n,hn⟩:∃n,n=l.length:=⟨_,rfl⟩
  have hpos:0<n:=by rw[hn];exact List.length_pos_iff.2 h0
  obtain⟨x,hx⟩:∃x,l[n-1]?=some x:=⟨_,List.getElem?_eq_getElem (by omega)⟩
  have c8:w.cell? ⟨g,o+(n-1)*9+8,none⟩=some (.string x.tag):=hat _ x hx 8 _ rfl
  have hlast:cE l=x.tag:=by
   unfold cE
   rw[List.getLast?_eq_getElem?,←hn,hx]
  have HL:=Lib.hid hlast
  have k1:(0:Int)≤(n:Int)-1:=by omega
  have k2:(n:Int)-1<n:=by omega
  have k3:¬((n:Int)=0):=by omega
  have k4:(n:Int)≤1048576:=by omega
  clear hat hx h0 hlast
  rw[←hn]
  rw[←hn]at hcap
  clear hn hl
  go_enter Tryz.func170,Tryz.ntmps170
  go_wp2_with fail
  go_ret
  exact⟨tC HL.out.symm,Below.refl _ _⟩
def rcpAt (l:List aH) (k:Nat) (x:aH):aK:=⟨(k:Int),x.r,cE (l.take k),x.tag⟩
def ik (l:List aH) (i:Int):Option aH:=if 0≤i then(l[i.toNat]?).filter (fun x=>decide (x.r.kind=1))else none
def gw (l:List aH) (i:Int):aK×Int:=
 match ik l i with
 |none=>(aK.zero,7)
 |some x=>if cD (rcpAt l i.toNat x)then(rcpAt l i.toNat x,0)else(aK.zero,2)
theorem pZ {l:List aH} {i:Int} (h:ik l i=none):gw l i=(aK.zero,7):=by unfold gw;rw[h]
theorem xf {l:List aH} {i:Int} (h:¬(0≤i∧i<l.length)):ik l i=none:=by
 unfold ik
 split
 ·rw[List.getElem?_eq_none (by omega)];rfl
 ·rfl
theorem qa {l:List aH} {k:Nat} {x:aH} (h:l[k]?=some x):ik l k=if x.r.kind=1 then some x else none:=by
 unfold ik
 rw[if_pos (by omega),Int.toNat_natCast,h]
 by_cases hk:x.r.kind=1
 ·rw[if_pos hk];simp[Option.filter,hk]
 ·rw[if_neg hk];simp[Option.filter,hk]
theorem D9 {l:List aH} {k:Nat} {x:aH} (h:l[k]?=some x) (hk:x.r.kind=1):gw l k=if cD (rcpAt l k x)then(rcpAt l k x,0)else(aK.zero,2):=by
 unfold gw
 rw[qa h,if_pos hk]
 rfl
def gx (l:List aH):Prop:=∀(j:Nat) (x:aH),l[j]?=some x→x.r.name.size≤1048576∧x.r.root.size≤1048576∧x.tag.size≤1048576∧Fits x.r.epoch
theorem il (w:World):Sem.run Tryz.prog (zeroValue 37) w= .ok (.agg aK.zero.cells.toArray) w:=by kernel_rfl
theorem aK.cells_one (x:aK):∀v∈x.cells,v.oneCell'=true:=by intro v hv;simp[aK.cells]at hv;rcases hv with rfl|rfl|rfl|rfl|rfl|rfl|rfl|rfl|rfl|rfl|rfl<;>rfl
theorem IV {w:World} {b:Nat} {old:List Value} {t:TypeId} {v0 v1 v2 v3 v4 v5 v6 v7 v8 v9 v10:Value} (h:ab w b old t) (hl:old.length=11):
  ab (((((((((((w.setCell ⟨b,0,none⟩ v0).setCell ⟨b,1,none⟩ v1).setCell ⟨b,2,none⟩ v2).setCell ⟨b,3,none⟩ v3).setCell ⟨b,4,none⟩ v4).setCell ⟨b,5,none⟩ v5).setCell ⟨b,6,none⟩ v6).setCell ⟨b,7,none⟩ v7).setCell ⟨b,8,none⟩ v8).setCell ⟨b,9,none⟩ v9).setCell ⟨b,10,none⟩ v10) b [v0,v1,v2,v3,v4,v5,v6,v7,v8,v9,v10] t:=
 (((((((((((h.set 0 v0).set 1 v1).set 2 v2).set 3 v3).set 4 v4).set 5 v5).set 6 v6).set 7 v7).set 8 v8).set 9 v9).set 10 v10).ext (by
   match old,hl with
   |[_,_,_,_,_,_,_,_,_,_,_],_=>rfl)
theorem FD {B:Nat} {a w:World} {b:Nat} {v0 v1 v2 v3 v4 v5 v6 v7 v8 v9 v10:Value} (h:Below B a w) (hB:B≤b):Below B a (((((((((((w.setCell ⟨b,0,none⟩ v0).setCell ⟨b,1,none⟩ v1).setCell ⟨b,2,none⟩ v2).setCell ⟨b,3,none⟩ v3).setCell ⟨b,4,none⟩ v4).setCell ⟨b,5,none⟩ v5).setCell ⟨b,6,none⟩ v6).setCell ⟨b,7,none⟩ v7).setCell ⟨b,8,none⟩ v8).setCell ⟨b,9,none⟩ v9).setCell ⟨b,10,none⟩ v10):=
 ((((((((((((cz.refl b w).setCell 0 v0).setCell 1 v1).setCell 2 v2).setCell 3 v3).setCell 4 v4).setCell 5 v5).setCell 6 v6).setCell 7 v7).setCell 8 v8).setCell 9 v9).setCell 10 v10).below h hB
theorem uT {l:List aH} {k:Nat} {x:aH} (hk:x.r.kind=1):[.int .i64 (k:Int), .int .i64 1, .int .i64 x.r.epoch, .int .i64 x.r.time, .int .i64 x.r.count, .int .i64 x.r.target, .int .i64 x.r.till, .string x.r.root, .string x.r.name, .string (cE (l.take k)), .string x.tag]=(rcpAt l k x).cells:=by
 show _=[Value.int .i64 (k:Int), .int .i64 x.r.kind, .int .i64 x.r.epoch, .int .i64 x.r.time, .int .i64 x.r.count, .int .i64 x.r.target, .int .i64 x.r.till, .string x.r.root, .string x.r.name, .string (cE (l.take k)), .string x.tag]
 rw[hk]
theorem G0 (w:World) {l:List aH} {k:Nat} {x:aH} (hk:x.r.kind=1):du (w.alloc (Obj.cells #[.int .i64 (k:Int), .int .i64 1, .int .i64 x.r.epoch, .int .i64 x.r.time, .int .i64 x.r.count, .int .i64 x.r.target, .int .i64 x.r.till, .string x.r.root, .string x.r.name, .string (cE (l.take k)), .string x.tag] 37)) w.heap.size (rcpAt l k x):=
 du.blk (t:=37) ((ab.new w [.int .i64 (k:Int), .int .i64 1, .int .i64 x.r.epoch, .int .i64 x.r.time, .int .i64 x.r.count, .int .i64 x.r.target, .int .i64 x.r.till, .string x.r.root, .string x.r.name, .string (cE (l.take k)), .string x.tag] 37).ext (uT hk))
theorem G1 {w:World} {b:Nat} {l:List aH} {k:Nat} {x:aH} (hk:x.r.kind=1) (h:ab w b aK.zero.cells 37):du (((((((((((w.setCell ⟨b,0,none⟩ (.int .i64 (k:Int))).setCell ⟨b,1,none⟩ (.int .i64 1)).setCell ⟨b,2,none⟩ (.int .i64 x.r.epoch)).setCell ⟨b,3,none⟩ (.int .i64 x.r.time)).setCell ⟨b,4,none⟩ (.int .i64 x.r.count)).setCell ⟨b,5,none⟩ (.int .i64 x.r.target)).setCell ⟨b,6,none⟩ (.int .i64 x.r.till)).setCell ⟨b,7,none⟩ (.string x.r.root)).setCell ⟨b,8,none⟩ (.string x.r.name)).setCell ⟨b,9,none⟩ (.string (cE (l.take k)))).setCell ⟨b,10,none⟩ (.string x.tag)) b (rcpAt l k x):=
 du.blk (t:=37) ((IV h rfl).ext (uT hk))
theorem eA {fn:Func} {p u:Tmp} (h:fn.results=#[.cell p 37, .tmp u]) (tmps:Array Value) (w:World) {b:Nat} {x:aK} (hb:du w b x) (hp:tmps.getD p undef= .pointer (some ⟨b,0,none⟩)):
  (results fn tmps).run Tryz.prog w= .ok (.tuple #[x.v,tmps.getD u undef]) w:=by
 rw[results_cell_tmp h,hp]
 have e:=run_loadVar_mid (P:=Tryz.prog) w b 0 37 x.cells _ (fun i u hu=>by rw[Nat.zero_add];exact hb.at_ i u hu) Tryz.underlying37 rfl bf
 simp only[asAddr,Sem.run_pure,Result.andThen_ok,e]
 rfl
def nW (l:List aH) (i:Int) (e:Ending):Prop:=e= .returned (.tuple #[(gw l i).1.v, .int .i64 (gw l i).2])
theorem rG (v:Value) (l:List aH) (i:Int) (w:World) (h:de w v l) (hl:l.length≤1048576) (ht:gx l):
  Calls Tryz.prog 50 #[v, .int .i64 i] w fun e w'=>nW l i e∧Below w.heap.size w w':=by
 unfold nW
 by_cases hin:0≤i∧i<l.length
 rotate_left
 ·rw[pZ (xf hin)]
  obtain⟨p,c,rfl⟩:=h.shape
  obtain⟨n,hn⟩:∃n,n=l.length:=⟨_,rfl⟩
  rw[←hn]
  rw[←hn]at hin
  clear h ht hn hl
  by_cases hneg:i<0
  ·go_enter Tryz.func50,Tryz.ntmps50
   go_wp2_with (first|((with_reducible refine ai 37 aK.zero.cells il (some 4) ?hgd ?ho ?hd ?_);(case hgd|ho|hd=>rfl);(intro b4 w4 l4 B4 e4 z4))|((with_reducible refine af 37 (.tmp 4) (.tmp 24) b4 aK.zero.cells aK.zero.cells 37 B4 rfl bf (aK.cells_one _) ?hgd ?ho ?hx ?hy ?_);(case hgd|ho|hx|hy=>rfl);(intro w5 B5 o5)))
   (try simp only[Exit.inBlock,Exit.then]);refine bodyPost_ret (eA rfl _ _ (du.blk B5) rfl) rfl ⟨rfl,o5.below (e4.mono l4) l4⟩
  ·have h1:0≤i:=by omega
   have h2:(n:Int)≤i:=by omega
   go_enter Tryz.func50,Tryz.ntmps50
   go_wp2_with (first|((with_reducible refine ai 37 aK.zero.cells il (some 4) ?hgd ?ho ?hd ?_);(case hgd|ho|hd=>rfl);(intro b4 w4 l4 B4 e4 z4))|((with_reducible refine af 37 (.tmp 4) (.tmp 24) b4 aK.zero.cells aK.zero.cells 37 B4 rfl bf (aK.cells_one _) ?hgd ?ho ?hx ?hy ?_);(case hgd|ho|hx|hy=>rfl);(intro w5 B5 o5)))
   (try simp only[Exit.inBlock,Exit.then]);refine bodyPost_ret (eA rfl _ _ (du.blk B5) rfl) rfl ⟨rfl,o5.below (e4.mono l4) l4⟩
 ·rcases h with⟨rfl,_⟩|⟨g,o,c,rfl,hcap,hg,hat⟩
  ·simp at hin;omega
  obtain⟨k,rfl⟩:∃k:Nat,i=(k:Int):=⟨i.toNat,by omega⟩
  have hkl:k<l.length:=by omega
  obtain⟨x,hx⟩:∃x,l[k]?=some x:=⟨_,List.getElem?_eq_getElem hkl⟩
  obtain⟨n,hn⟩:∃n,n=l.length:=⟨_,rfl⟩
  have HA:Hid (kL w g o n c l):=Lib.hid ⟨hn,by omega,hg,hat⟩
  have hrow:de w (.slice (some ⟨g,o,none⟩) n c) l:=HA.out.row
  have HT:=Lib.hid (ht k x hx)
  have hk0:(0:Int)≤(k:Int):=by omega
  have hkn:(k:Int)<n:=by omega
  have hkc:(k:Int)≤c:=by omega
  have hkn':k≤n:=by omega
  have hnk:¬n≤k:=by omega
  have hkt:(l.take k).length≤1048576:=by rw[List.length_take];omega
  have HKT:=Lib.hid hkt
  have HKK:Hid ((k:Int)≤1048576):=Lib.hid (by omega)
  rw[←hn]
  have HX:=Lib.hid hx
  by_cases hk:x.r.kind=1
  rotate_left
  ·have hkb:(x.r.kind !=1)=true:=by simpa using hk
   have hm:gw l (k:Int)=(aK.zero,7):=pZ (by rw[qa hx,if_neg hk])
   rw[hm]
   clear hm hx hat hkl hl hn ht hrow hkt
   go_enter Tryz.func50,Tryz.ntmps50
   go_wp2_with (first|((with_reducible refine ai 37 aK.zero.cells il (some 4) ?hgd ?ho ?hd ?_);(case hgd|ho|hd=>rfl);(intro b4 w4 l4 B4 e4 z4);(have HA4:=Lib.hid (HA.out.below e4 l4));(obtain⟨c0,c1,c2,c3,c4,c5,c6,c7,c8⟩:=rC (HA4.out.at_ k x HX.out)))|((with_reducible refine af 37 (.tmp 4) (.tmp 24) b4 aK.zero.cells aK.zero.cells 37 B4 rfl bf (aK.cells_one _) ?hgd ?ho ?hx ?hy ?_);(case hgd|ho|hx|hy=>rfl);(intro w5 B5 o5)))
   (try simp only[Exit.inBlock,Exit.then]);refine bodyPost_ret (eA rfl _ _ (du.blk B5) rfl) rfl ⟨rfl,o5.below (e4.mono l4) l4⟩
  ·have hm:=D9 hx hk
   have HM:=Lib.hid hm
   clear hm hx hat hkl hl hn ht hrow hkt
   go_enter Tryz.func50,Tryz.ntmps50
   go_wp2_with ((with_reducible refine ai 37 aK.zero.cells il (some 4) ?hgd ?ho ?hd ?_);(case hgd|ho|hd=>rfl);(intro b4 w4 l4 B4 e4 z4);(have HA4:=Lib.hid (HA.out.below e4 l4));(obtain⟨c0,c1,c2,c3,c4,c5,c6,c7,c8⟩:=rC (HA4.out.at_ k x HX.out)))
   have hg1:¬g=w4.heap.size:=by have:=HA4.out.lt;omega
   have hg2:¬w4.heap.size=g:=by omega
   have hg3:g<w4.heap.size:=HA4.out.lt
   go_cut [6]from 25 to 41 (fun v6 wc=>∃b6,v6= .pointer (some ⟨b6,0,none⟩)∧du wc b6 (rcpAt l k x)∧w4.heap.size≤b6∧Below w4.heap.size w4 wc)
   case first=>
    go_region_held3 (fun w'=>w'.cell? ⟨g,o+k*9,none⟩=some (.int .i64 x.r.kind)∧w'.cell? ⟨g,o+k*9+1,none⟩=some (.int .i64 x.r.epoch)∧w'.cell? ⟨g,o+k*9+2,none⟩=some (.int .i64 x.r.time)∧w'.cell? ⟨g,o+k*9+3,none⟩=some (.int .i64 x.r.count)∧w'.cell? ⟨g,o+k*9+4,none⟩=some (.int .i64 x.r.target)∧w'.cell? ⟨g,o+k*9+5,none⟩=some (.int .i64 x.r.till)∧w'.cell? ⟨g,o+k*9+6,none⟩=some (.string x.r.root)∧w'.cell? ⟨g,o+k*9+7,none⟩=some (.string x.r.name)∧w'.cell? ⟨g,o+k*9+8,none⟩=some (.string x.tag)) (go_keep) ((first|(go_at_call_of 43 (Value.slice (some ⟨g,o,none⟩) k c);refine(pY _ (l.take k) _ (by first|exact(HA4.out.below (Below.refl _ _).drew (Nat.le_refl _)).take hkn'|exact(HA4.out.below ((Below.refl _ _).drew.alloc (Nat.le_refl _) _) (Nat.le_refl _)).take hkn') HKT.out).mono ?_;rintro e wA ⟨rfl,hbA⟩;have d0:=hbA.cell (p:=⟨g,o+k*9,none⟩) (by have:=HA4.out.lt;first|exact this|exact Nat.lt_of_lt_of_le this (by simp));have d1:=hbA.cell (p:=⟨g,o+k*9+1,none⟩) (by have:=HA4.out.lt;first|exact this|exact Nat.lt_of_lt_of_le this (by simp));have d2:=hbA.cell (p:=⟨g,o+k*9+2,none⟩) (by have:=HA4.out.lt;first|exact this|exact Nat.lt_of_lt_of_le this (by simp));have d3:=hbA.cell (p:=⟨g,o+k*9+3,none⟩) (by have:=HA4.out.lt;first|exact this|exact Nat.lt_of_lt_of_le this (by simp));have d4:=hbA.cell (p:=⟨g,o+k*9+4,none⟩) (by have:=HA4.out.lt;first|exact this|exact Nat.lt_of_lt_of_le this (by simp));have d5:=hbA.cell (p:=⟨g,o+k*9+5,none⟩) (by have:=HA4.out.lt;first|exact this|exact Nat.lt_of_lt_of_le this (by simp));have d6:=hbA.cell (p:=⟨g,o+k*9+6,none⟩) (by have:=HA4.out.lt;first|exact this|exact Nat.lt_of_lt_of_le this (by simp));have d7:=hbA.cell (p:=⟨g,o+k*9+7,none⟩) (by have:=HA4.out.lt;first|exact this|exact Nat.lt_of_lt_of_le this (by simp));have d8:=hbA.cell (p:=⟨g,o+k*9+8,none⟩) (by have:=HA4.out.lt;first|exact this|exact Nat.lt_of_lt_of_le this (by simp));have hsz:w4.heap.size≤wA.heap.size:=(by have hq:=hbA.size;first|exact hq|exact Nat.le_trans (by simp) hq);have hg4:g<wA.heap.size:=Nat.lt_of_lt_of_le hg3 hsz;have hg5:¬g=wA.heap.size:=Nat.ne_of_lt hg4;have hg6:¬wA.heap.size=g:=Nat.ne_of_gt hg4;have hz:=fun(i:Nat) (h:w4.heap.size<_)=>hbA.cell (p:=⟨w4.heap.size,i,none⟩) h;have hf:=fun(i:Nat) (h:w4.heap.size<_)=>hbA.frozen (p:=⟨w4.heap.size,i,none⟩) h;have hz1:=fun(h:w4.heap.size<_)=>Nat.lt_of_lt_of_le h hbA.size;have hz2:=fun(h:w4.heap.size<_)=>Nat.ne_of_lt (Nat.lt_of_lt_of_le h hbA.size))|fail))
    all_goals go_wp2_with fail
    all_goals go_meet
    ·exact⟨_,rfl,G0 wA hk,hsz,((Below.refl w4.heap.size w4).drew.trans hbA).alloc hsz _⟩
    ·exact⟨_,rfl,G1 hk ((ab.new w4.drew aK.zero.cells 37).below hbA (by simp)),Nat.le_refl _,FD (((Below.refl w4.heap.size w4).drew.alloc (Nat.le_refl _) _).trans (hbA.mono (by simp))) (Nat.le_refl _)⟩
   case rest=>
    clear c0 c1 c2 c3 c4 c5 c6 c7 c8
    obtain⟨b6,rfl,R6,hb6,hbc⟩:=hcut
    have B4c:=B4.below hbc z4
    have R6:=Lib.hid R6
    obtain⟨a0,a1,a2,a3,a4,a5,a6,a7,a8,a9,aA⟩:=R6.out.cells_
    go_wp2_with fail
    clear a0 a1 a2 a3 a4 a5 a6 a7 a8 a9 aA
    have hsz:=hbc.size
    refine(mh (rcpAt l k x) _ (by have:=HT.out.1;show x.r.name.size≤_;omega) HT.out.2.2.2 (by show Fits (k:Int);have:=HKK.out;unfold Fits;omega)).mono ?_
    rintro e w7 ⟨rfl,hb7⟩
    have B4:=B4c.below hb7 (by omega)
    have R7:=Lib.hid (R6.out.below hb7 R6.out.lt)
    obtain⟨a0,a1,a2,a3,a4,a5,a6,a7,a8,a9,aA⟩:=R7.out.cells_
    have hbw:Below w.heap.size w w7:=(e4.mono l4).trans ((hbc.trans (hb7.mono hsz)).mono (by omega))
    cases hok:cD (rcpAt l k x)with
    |true=>
     have hm:=HM.out
     rw[hok]at hm
     have HM:=Lib.hid hm
     clear hm hok
     go_wp2_with ((with_reducible refine af 37 (.tmp 4) (.tmp 45) b4 aK.zero.cells (rcpAt l k x).cells 37 B4 rfl bf (aK.cells_one _) ?hgd ?ho ?hx ?hy ?_);(case hgd|ho|hx|hy=>rfl);(intro w5 B5 o5))
     (try simp only[Exit.inBlock,Exit.then]);refine bodyPost_ret (eA rfl _ _ (du.blk B5) rfl) rfl ⟨by rw[HM.out];rfl,o5.below hbw l4⟩
    |false=>
     have hm:=HM.out
     rw[hok]at hm
     have HM:=Lib.hid hm
     clear hm hok a0 a1 a2 a3 a4 a5 a6 a7 a8 a9 aA
     go_wp2_with ((with_reducible refine af 37 (.tmp 4) (.tmp 44) b4 aK.zero.cells aK.zero.cells 37 B4 rfl bf (aK.cells_one _) ?hgd ?ho ?hx ?hy ?_);(case hgd|ho|hx|hy=>rfl);(intro w5 B5 o5))
     (try simp only[Exit.inBlock,Exit.then]);refine bodyPost_ret (eA rfl _ _ (du.blk B5) rfl) rfl ⟨by rw[HM.out];rfl,o5.below hbw l4⟩
deriving instance DecidableEq for Rec
deriving instance DecidableEq for aK
deriving instance DecidableEq for aH
def mj (x y:Rec):Bool:=decide (x=y)
def zm (x y:aK):Bool:=decide (x=y)
def zn (x y:aH):Bool:=decide (x=y)
theorem Bi (k ep ti co ta un:Int) (ro na:ByteArray) (k' ep' ti' co' ta' un':Int) (ro' na':ByteArray) (d:Nat) (w:World):
  (Op.equalIn (d+2) 25 (.agg #[.int .i64 k, .int .i64 ep, .int .i64 ti, .int .i64 co, .int .i64 ta, .int .i64 un, .string ro, .string na]) (.agg #[.int .i64 k', .int .i64 ep', .int .i64 ti', .int .i64 co', .int .i64 ta', .int .i64 un', .string ro', .string na'])).run Tryz.prog w= .ok (mj ⟨k,ep,ti,co,ta,un,ro,na⟩ ⟨k',ep',ti',co',ta',un',ro',na'⟩) w:=by
 have e:mj ⟨k,ep,ti,co,ta,un,ro,na⟩ ⟨k',ep',ti',co',ta',un',ro',na'⟩=(k==k'&&(ep==ep'&&(ti==ti'&&(co==co'&&(ta==ta'&&(un==un'&&(decide (ro=ro')&&(decide (na=na')&&true)))))))):=by
  unfold mj
  rw[Bool.eq_iff_iff]
  simp
 rw[e]
 refine ip (d:=d+1) Tryz.underlying25 (by kernel_rfl) ?_
 refine eh (k:= .i64) (by decide) (by kernel_rfl) (by kernel_rfl) Tryz.underlying3 ?_
 refine eh (k:= .i64) (by decide) (by kernel_rfl) (by kernel_rfl) Tryz.underlying3 ?_
 refine eh (k:= .i64) (by decide) (by kernel_rfl) (by kernel_rfl) Tryz.underlying3 ?_
 refine eh (k:= .i64) (by decide) (by kernel_rfl) (by kernel_rfl) Tryz.underlying3 ?_
 refine eh (k:= .i64) (by decide) (by kernel_rfl) (by kernel_rfl) Tryz.underlying3 ?_
 refine eh (k:= .i64) (by decide) (by kernel_rfl) (by kernel_rfl) Tryz.underlying3 ?_
 refine j7 (by decide) (by kernel_rfl) (by kernel_rfl) Tryz.underlying9 ?_
 refine j7 (by decide) (by kernel_rfl) (by kernel_rfl) Tryz.underlying9 ?_
 exact j6
theorem G2 (k ep ti co ta un:Int) (ro na tg:ByteArray) (k' ep' ti' co' ta' un':Int) (ro' na' tg':ByteArray) (w:World):
  (Op.equalIn 10000 27 (.agg #[.int .i64 k, .int .i64 ep, .int .i64 ti, .int .i64 co, .int .i64 ta, .int .i64 un, .string ro, .string na, .string tg]) (.agg #[.int .i64 k', .int .i64 ep', .int .i64 ti', .int .i64 co', .int .i64 ta', .int .i64 un', .string ro', .string na', .string tg'])).run Tryz.prog w= .ok (zn ⟨⟨k,ep,ti,co,ta,un,ro,na⟩,tg⟩ ⟨⟨k',ep',ti',co',ta',un',ro',na'⟩,tg'⟩) w:=by
 have e:zn ⟨⟨k,ep,ti,co,ta,un,ro,na⟩,tg⟩ ⟨⟨k',ep',ti',co',ta',un',ro',na'⟩,tg'⟩=(mj ⟨k,ep,ti,co,ta,un,ro,na⟩ ⟨k',ep',ti',co',ta',un',ro',na'⟩&&(decide (tg=tg')&&true)):=by
  unfold zn mj
  rw[Bool.eq_iff_iff]
  simp
 rw[e]
 refine ip (d:=9999) Tryz.underlying27 (by kernel_rfl) ?_
 refine yu (by decide) (by kernel_rfl) (by kernel_rfl) (Bi k ep ti co ta un ro na k' ep' ti' co' ta' un' ro' na' 9997 w) ?_
 refine j7 (d:=9998) (by decide) (by kernel_rfl) (by kernel_rfl) Tryz.underlying9 ?_
 exact j6
theorem G3 (s k ep ti co ta un:Int) (ro na wa tg:ByteArray) (s' k' ep' ti' co' ta' un':Int) (ro' na' wa' tg':ByteArray) (w:World):
  (Op.equalIn 10000 37 (.agg #[.int .i64 s, .int .i64 k, .int .i64 ep, .int .i64 ti, .int .i64 co, .int .i64 ta, .int .i64 un, .string ro, .string na, .string wa, .string tg]) (.agg #[.int .i64 s', .int .i64 k', .int .i64 ep', .int .i64 ti', .int .i64 co', .int .i64 ta', .int .i64 un', .string ro', .string na', .string wa', .string tg'])).run Tryz.prog w= .ok (zm ⟨s,⟨k,ep,ti,co,ta,un,ro,na⟩,wa,tg⟩ ⟨s',⟨k',ep',ti',co',ta',un',ro',na'⟩,wa',tg'⟩) w:=by
 have e:zm ⟨s,⟨k,ep,ti,co,ta,un,ro,na⟩,wa,tg⟩ ⟨s',⟨k',ep',ti',co',ta',un',ro',na'⟩,wa',tg'⟩=(s==s'&&(mj ⟨k,ep,ti,co,ta,un,ro,na⟩ ⟨k',ep',ti',co',ta',un',ro',na'⟩&&(decide (wa=wa')&&(decide (tg=tg')&&true)))):=by
  unfold zm mj
  rw[Bool.eq_iff_iff]
  simp
 rw[e]
 refine ip (d:=9999) Tryz.underlying37 (by kernel_rfl) ?_
 refine eh (k:= .i64) (d:=9998) (by decide) (by kernel_rfl) (by kernel_rfl) Tryz.underlying3 ?_
 refine yu (by decide) (by kernel_rfl) (by kernel_rfl) (Bi k ep ti co ta un ro na k' ep' ti' co' ta' un' ro' na' 9997 w) ?_
 refine j7 (d:=9998) (by decide) (by kernel_rfl) (by kernel_rfl) Tryz.underlying9 ?_
 refine j7 (d:=9998) (by decide) (by kernel_rfl) (by kernel_rfl) Tryz.underlying9 ?_
 exact j6
theorem Ea:Tryz.prog.eqGuardType Tryz.prog.depth 37=false:=by kernel_rfl
theorem Eb:Tryz.prog.eqGuardType Tryz.prog.depth 27=false:=by kernel_rfl
open Go.ChangeShapes Go.WideShapes Go.Deep
structure yq (x:aK):Prop where
 seq:Fits x.seq
 r:lI x.r
section
variable {H:Type} {enc:TypeId×Value→H} {w:World} {base:Nat} {spare:Nat→Bool} {held:Bool}
theorem Ec {fuel:Nat} {cs:List Value} {x:DataW H×List MemPlace} (h:DataW.trod enc Tryz.prog w base spare held fuel 37 cs=some x):∃s:aK,cs=s.cells∧yq s:=by
 obtain⟨xs,n,_,_,hl,hlen,hf⟩:=DataW.trod_struct Tryz.underlying37 h
 have hc:Tryz.prog.cellsOf 37=11:=by kernel_rfl
 have k0:Tryz.prog.cellsOf 3=1:=by kernel_rfl
 have k1:Tryz.prog.cellsOf 25=8:=by kernel_rfl
 have k2:Tryz.prog.cellsOf 9=1:=by kernel_rfl
 rw[hc]at hl
 match xs,hlen with
 |[y0,y1,y2,y3],_=>
  have g0:DataW.trod enc Tryz.prog w base spare held n 3 (List.take (Tryz.prog.cellsOf 3) (List.drop 0 cs))=some y0:=hf 0 _ rfl
  have g1:DataW.trod enc Tryz.prog w base spare held n 25 (List.take (Tryz.prog.cellsOf 25) (List.drop 1 cs))=some y1:=hf 1 _ rfl
  have g2:DataW.trod enc Tryz.prog w base spare held n 9 (List.take (Tryz.prog.cellsOf 9) (List.drop 9 cs))=some y2:=hf 2 _ rfl
  have g3:DataW.trod enc Tryz.prog w base spare held n 9 (List.take (Tryz.prog.cellsOf 9) (List.drop 10 cs))=some y3:=hf 3 _ rfl
  rw[k0]at g0
  rw[k1]at g1
  rw[k2]at g2 g3
  obtain⟨n0,e0,_,f0⟩:=DataW.trod_int Tryz.underlying3 g0
  obtain⟨r,hr,hfit⟩:=ut g1
  obtain⟨s,hs,_,_⟩:=DataW.trod_string Tryz.underlying9 g2
  obtain⟨t,ht,_,_⟩:=DataW.trod_string Tryz.underlying9 g3
  refine⟨⟨n0,r,s,t⟩, ?_,⟨cr f0,hfit⟩⟩
  have e1:cs=cs.take 1++((cs.drop 1).take 8++((cs.drop 9).take 1++(cs.drop 10).take 1)):=by
   match cs,hl with
   |[_,_,_,_,_,_,_,_,_,_,_],_=>rfl
  rw[List.drop_zero]at e0
  rw[e1,e0,hr,hs,ht]
  rfl
end
section
variable {P:Program} {o:Oper} {a:Act} {w:World} {K:Act→World→Prop} {Q:Exit→Act→World→Prop}
theorem iE (src dst e:TypeId) (x:Operand) (l:List UInt8) (b off len cap:Nat)
  (hs:P.underlying src=some (.slice e)) (he:P.underlying e=some (.int .u8)) (hd:P.underlying dst=some .string)
  (hr:w.rangeAt b off (bytesV l)) (hl:len=l.length) (v:Value) (hv:str l=v)
  (ho:o.op= .convert src dst x) (hx:a.eval x= .slice (some ⟨b,off,none⟩) len cap)
  (h:K (a.put o.dst v) w):o.wp P a w K Q:=by
 subst hv
 unfold Oper.wp execOp
 simp only[ho,hx,Sem.run_bind]
 rw[run_convert_bytes_string w src dst e _ _ _ hs he hd,ig w _ l len cap hl (fun j v hv=>by rw[Addr.add_mid];exact hr j v hv)]
 exact h
end
theorem hold_walk (s:ByteArray) (w:World) (h0:1≤s.size) (h1:s.size≤4000):
  Calls Tryz.prog 256 #[.string s] w fun e w'=>(∃z,e= .returned (.tuple #[.string z, .int .i64 0])∧aj z (holdL s.data.toList))∧Below w.heap.size w w':=by
 have hs:(s.toList==([]:List UInt8))=false:=by
  rw[beq_eq_false_iff_ne];intro e
  have h9:s.data.toList.length=0:=by rw[←Lib.toList_data,e];rfl
  have h8:s.data.toList.length=s.size:=rfl
  omega
 have hi:(s.size:Int)≤4000:=by omega
 have H1:=Lib.hid h1
 clear h1 h0
 go_enter Tryz.func256,Tryz.ntmps256
 go_upto_region 3 with fail
 clear hs
 refine wp_region_held_drew (S:=fun wx=>True) (by kernel_rfl) (trivial) (fun hHeld=> ?_)
 obtain⟨wd,hwd⟩:∃wd,wd=w.drew:=⟨_,rfl⟩
 have HBEwd:Hid (Below w.heap.size w wd):=Lib.hid (by rw[hwd];exact(Below.refl _ _).drew)
 rw[←hwd]
 (try rw[←hwd]at hHeld)
 clear hwd
 refine hp 2 ?_
 refine wpAnyH_ready (rs:=[0,3]) (by kernel_rfl) (by simp) ?_
 refine AllReadyH.cons rfl (fun K hK=> ?_) (AllReadyH.cons rfl (fun K hK=> ?_) AllReadyH.nil)
 ·go_simp
  obtain⟨wa,hw4⟩:∃w4,w4=wd.alloc (Obj.cells #[.int .u8 3] 5):=⟨_,rfl⟩
  rw[←hw4]
  have hb4:Below wd.heap.size wd wa:=by rw[hw4];exact(Below.refl _ _).alloc (Nat.le_refl _) _
  have B4:ab wa wd.heap.size (bytesV [3]) 5:=by rw[hw4];exact ab.new wd _ _
  have HGwa:=Lib.hid B4
  have HBEwa:=Lib.hid (HBEwd.out.trans (hb4.mono HBEwd.out.size))
  clear hb4 B4 hw4
  (try go_wp2_with fail)
  refine hK.out _ _ (trivial) (fun hHeld2=> ?_)
  clear hK K hHeld
  have hHeld:=hHeld2
  clear hHeld2
  (try go_frame)
  refine wpAnyH_ready (rs:=[1,3]) (by kernel_rfl) (by simp) ?_
  refine AllReadyH.cons rfl (fun K hK=> ?_) (AllReadyH.cons rfl (fun K hK=> ?_) AllReadyH.nil)
  ·refine iE 205 9 5 (.tmp 11) [3] wd.heap.size 0 1 1 Tryz.underlying205 Tryz.underlying5 Tryz.underlying9 HGwa.out.range rfl (.string ⟨#[3]⟩) rfl rfl rfl ?_
   refine hK.out _ _ (trivial) (fun hHeld2=> ?_)
   clear hK K hHeld
   have hHeld:=hHeld2
   clear hHeld2
   (try go_frame)
   refine wpAnyH_ready (rs:=[3]) (by kernel_rfl) (by simp) ?_
   refine AllReadyH.cons rfl (fun K hK=> ?_) AllReadyH.nil
   go_simp
   refine(eT s _ (by have:=H1.out;omega)).mono ?_
   rintro e wt ⟨t,rfl,tt,hbt⟩
   have HTT:=Lib.hid tt
   have HBEwt:=Lib.hid (HBEwa.out.trans (hbt.mono HBEwa.out.size))
   have hts:t.size=4+s.size:=by rw[tt.size,bg];rfl
   have HTS:=Lib.hid hts
   skip
   clear tt hbt hts
   (try go_wp2_with fail)
   refine hK.out _ _ (trivial) (fun hHeld2=> ?_)
   clear hK K hHeld
   have hHeld:=hHeld2
   clear hHeld2
   (try go_frame)
   have hts:¬9223372036854775807<1+t.size:=by have:=HTS.out;have:=H1.out;omega
   refine hp 4 ?_
   obtain⟨s3,hs3⟩:∃s3:ByteArray,s3=ByteArray.mk #[3]++t:=⟨_,rfl⟩
   rw[←hs3]
   have HS3:=Lib.hid (show s3.size=1+t.size by rw[hs3,ByteArray.size_append];rfl)
   have HT3:=Lib.hid (show aj s3 ([3]++cZ s.data.toList) by rw[hs3];exact(show aj (ByteArray.mk #[3]) [3]from rfl).append HTT.out)
   clear hs3
   refine wpAnyH_ready (rs:=[5]) (by kernel_rfl) (by simp) ?_
   refine AllReadyH.cons rfl (fun K hK=> ?_) AllReadyH.nil
   go_simp
   refine(gj s3 4096 _ (by have:=HS3.out;have:=HTS.out;have:=H1.out;omega) (by decide)).mono ?_
   rintro e wf ⟨z,rfl,tz,hbf⟩
   have HBEf:=Lib.hid (HBEwt.out.trans (hbf.mono HBEwt.out.size))
   have HTZ:=Lib.hid (show aj z (holdL s.data.toList)from tz.cast (by unfold holdL;rw[show s3.data.toList= _ from HT3.out]))
   clear tz hbf hts
   (try go_wp2_with fail)
   refine hK.out _ _ (trivial) (fun hHeld2=> ?_)
   clear hK K hHeld
   have hHeld:=hHeld2
   clear hHeld2
   (try go_frame)
   refine hp 6 ?_
   refine hp 7 ?_
   refine hp 8 ?_
   refine hp 9 ?_
   refine wpAnyH_done (by kernel_rfl) ?_ _
   clear hHeld
   go_wp2_with fail
   go_ret2
   exact⟨⟨z,rfl,HTZ.out⟩,HBEf.out⟩
  ·go_simp
   refine(eT s _ (by have:=H1.out;omega)).mono ?_
   rintro e wt ⟨t,rfl,tt,hbt⟩
   have HTT:=Lib.hid tt
   have HBEwt:=Lib.hid (HBEwa.out.trans (hbt.mono HBEwa.out.size))
   have hts:t.size=4+s.size:=by rw[tt.size,bg];rfl
   have HTS:=Lib.hid hts
   have HGwt:=Lib.hid (HGwa.out.below hbt HGwa.out.lt)
   clear tt hbt hts
   (try go_wp2_with fail)
   refine hK.out _ _ (trivial) (fun hHeld2=> ?_)
   clear hK K hHeld
   have hHeld:=hHeld2
   clear hHeld2
   (try go_frame)
   refine wpAnyH_ready (rs:=[1]) (by kernel_rfl) (by simp) ?_
   refine AllReadyH.cons rfl (fun K hK=> ?_) AllReadyH.nil
   refine iE 205 9 5 (.tmp 11) [3] wd.heap.size 0 1 1 Tryz.underlying205 Tryz.underlying5 Tryz.underlying9 HGwt.out.range rfl (.string ⟨#[3]⟩) rfl rfl rfl ?_
   refine hK.out _ _ (trivial) (fun hHeld2=> ?_)
   clear hK K hHeld
   have hHeld:=hHeld2
   clear hHeld2
   (try go_frame)
   have hts:¬9223372036854775807<1+t.size:=by have:=HTS.out;have:=H1.out;omega
   refine hp 4 ?_
   obtain⟨s3,hs3⟩:∃s3:ByteArray,s3=ByteArray.mk #[3]++t:=⟨_,rfl⟩
   rw[←hs3]
   have HS3:=Lib.hid (show s3.size=1+t.size by rw[hs3,ByteArray.size_append];rfl)
   have HT3:=Lib.hid (show aj s3 ([3]++cZ s.data.toList) by rw[hs3];exact(show aj (ByteArray.mk #[3]) [3]from rfl).append HTT.out)
   clear hs3
   refine wpAnyH_ready (rs:=[5]) (by kernel_rfl) (by simp) ?_
   refine AllReadyH.cons rfl (fun K hK=> ?_) AllReadyH.nil
   go_simp
   refine(gj s3 4096 _ (by have:=HS3.out;have:=HTS.out;have:=H1.out;omega) (by decide)).mono ?_
   rintro e wf ⟨z,rfl,tz,hbf⟩
   have HBEf:=Lib.hid (HBEwt.out.trans (hbf.mono HBEwt.out.size))
   have HTZ:=Lib.hid (show aj z (holdL s.data.toList)from tz.cast (by unfold holdL;rw[show s3.data.toList= _ from HT3.out]))
   clear tz hbf hts
   (try go_wp2_with fail)
   refine hK.out _ _ (trivial) (fun hHeld2=> ?_)
   clear hK K hHeld
   have hHeld:=hHeld2
   clear hHeld2
   (try go_frame)
   refine hp 6 ?_
   refine hp 7 ?_
   refine hp 8 ?_
   refine hp 9 ?_
   refine wpAnyH_done (by kernel_rfl) ?_ _
   clear hHeld
   go_wp2_with fail
   go_ret2
   exact⟨⟨z,rfl,HTZ.out⟩,HBEf.out⟩
 ·go_simp
  refine(eT s _ (by have:=H1.out;omega)).mono ?_
  rintro e wt ⟨t,rfl,tt,hbt⟩
  have HTT:=Lib.hid tt
  have HBEwt:=Lib.hid (HBEwd.out.trans (hbt.mono HBEwd.out.size))
  have hts:t.size=4+s.size:=by rw[tt.size,bg];rfl
  have HTS:=Lib.hid hts
  skip
  clear tt hbt hts
  (try go_wp2_with fail)
  refine hK.out _ _ (trivial) (fun hHeld2=> ?_)
  clear hK K hHeld
  have hHeld:=hHeld2
  clear hHeld2
  (try go_frame)
  refine wpAnyH_ready (rs:=[0]) (by kernel_rfl) (by simp) ?_
  refine AllReadyH.cons rfl (fun K hK=> ?_) AllReadyH.nil
  go_simp
  obtain⟨wa,hw4⟩:∃w4,w4=wt.alloc (Obj.cells #[.int .u8 3] 5):=⟨_,rfl⟩
  rw[←hw4]
  have hb4:Below wt.heap.size wt wa:=by rw[hw4];exact(Below.refl _ _).alloc (Nat.le_refl _) _
  have B4:ab wa wt.heap.size (bytesV [3]) 5:=by rw[hw4];exact ab.new wt _ _
  have HGwa:=Lib.hid B4
  have HBEwa:=Lib.hid (HBEwt.out.trans (hb4.mono HBEwt.out.size))
  clear hb4 B4 hw4
  (try go_wp2_with fail)
  refine hK.out _ _ (trivial) (fun hHeld2=> ?_)
  clear hK K hHeld
  have hHeld:=hHeld2
  clear hHeld2
  (try go_frame)
  refine wpAnyH_ready (rs:=[1]) (by kernel_rfl) (by simp) ?_
  refine AllReadyH.cons rfl (fun K hK=> ?_) AllReadyH.nil
  refine iE 205 9 5 (.tmp 11) [3] wt.heap.size 0 1 1 Tryz.underlying205 Tryz.underlying5 Tryz.underlying9 HGwa.out.range rfl (.string ⟨#[3]⟩) rfl rfl rfl ?_
  refine hK.out _ _ (trivial) (fun hHeld2=> ?_)
  clear hK K hHeld
  have hHeld:=hHeld2
  clear hHeld2
  (try go_frame)
  have hts:¬9223372036854775807<1+t.size:=by have:=HTS.out;have:=H1.out;omega
  refine hp 4 ?_
  obtain⟨s3,hs3⟩:∃s3:ByteArray,s3=ByteArray.mk #[3]++t:=⟨_,rfl⟩
  rw[←hs3]
  have HS3:=Lib.hid (show s3.size=1+t.size by rw[hs3,ByteArray.size_append];rfl)
  have HT3:=Lib.hid (show aj s3 ([3]++cZ s.data.toList) by rw[hs3];exact(show aj (ByteArray.mk #[3]) [3]from rfl).append HTT.out)
  clear hs3
  refine wpAnyH_ready (rs:=[5]) (by kernel_rfl) (by simp) ?_
  refine AllReadyH.cons rfl (fun K hK=> ?_) AllReadyH.nil
  go_simp
  refine(gj s3 4096 _ (by have:=HS3.out;have:=HTS.out;have:=H1.out;omega) (by decide)).mono ?_
  rintro e wf ⟨z,rfl,tz,hbf⟩
  have HBEf:=Lib.hid (HBEwa.out.trans (hbf.mono HBEwa.out.size))
  have HTZ:=Lib.hid (show aj z (holdL s.data.toList)from tz.cast (by unfold holdL;rw[show s3.data.toList= _ from HT3.out]))
  clear tz hbf hts
  (try go_wp2_with fail)
  refine hK.out _ _ (trivial) (fun hHeld2=> ?_)
  clear hK K hHeld
  have hHeld:=hHeld2
  clear hHeld2
  (try go_frame)
  refine hp 6 ?_
  refine hp 7 ?_
  refine hp 8 ?_
  refine hp 9 ?_
  refine wpAnyH_done (by kernel_rfl) ?_ _
  clear hHeld
  go_wp2_with fail
  go_ret2
  exact⟨⟨z,rfl,HTZ.out⟩,HBEf.out⟩
end Go.Proofs.YtgimkmclgjfddaaGreat
