/- An epoch of no cell: its segment (chapter 26). A volume does a call: it closes an epoch (chapter 26). The states of chapter 29's example: closings in which nothing was written. No program in sight. Walk of begun of chapter 29, at its example: two closings in which nothing was written. -/
import Derived.Test.YtgimkmclgjfddaaGreatQ20
import Derived.Test.YtgimkmclgjfddaaGreatQ21
import Derived.Test.YtgimkmclgjfddaaGreatQ23
import Derived.Test.YtgimkmclgjfddaaGreatQ18
import Derived.Test.YtgimkmclgjfddaaGreatQ2
import Derived.Deep.DeepAppendWide
import Derived.OneCell
import Derived.Test.YtgimkmclgjfddaaGreatQ9
set_option linter.unusedSimpArgs false
set_option linter.unusedVariables false
set_option maxRecDepth 100000
set_option maxHeartbeats 4000000
namespace Go.Proofs.YtgimkmclgjfddaaGreat
open Go Go.RowKit Go.Maps Go.WideMaps
theorem rj (i:aV) (v:bk) (ep:Int) (w:World) (h:bA w i v) (e0:0≤ep) (e1:ep≤4294967295) (hE:i9 v.vers ep=[]) (hvn:v.vers.length≤4096):
  Calls Tryz.prog 92 #[.pointer (some ⟨i.vb,0,none⟩), .int .i64 ep] w fun e w'=>(∃ps B,e= .returned (.tuple #[.pointer (some ⟨ps,0,none⟩), .int .i64 0])∧jn w' ps B 0 ep (.map []))∧Below w.heap.size w w':=by
 have HE:=Lib.hid hE
 have HVN:=Lib.hid hvn
 have HEP:=Lib.hid (show 0≤ep∧ep≤4294967295 from⟨e0,e1⟩)
 have H0:=Lib.hid h
 clear h hE hvn e0 e1
 go_enter Tryz.func92,Tryz.ntmps92
 go_wp2_with fail
 refine(wW ep _ HEP.out.1 HEP.out.2).mono ?_
 rintro e w1 ⟨⟨ps,B,rfl,hs1,hB,hps⟩,hb1⟩
 have HS1:=Lib.hid hs1
 have HBE1:=Lib.hid hb1
 have H1:=Lib.hid (H0.out.below hb1)
 have v3:w1.cell? ⟨i.vb,3,none⟩=some (.pointer (some ⟨i.xb,0,none⟩)):=H1.out.vol.cell (i:=3) rfl
 clear hs1 hB hps hb1
 go_wp2_with fail
 refine(xe i.xb _ i.xv v.vers ep _ H1.out.index H1.out.vers rfl HVN.out (by rw[HE.out];exact Nat.zero_le _)).mono ?_
 rintro e w2 ⟨⟨ve,rfl,hve⟩,hb2⟩
 rw[HE.out]at hve
 obtain⟨pe,ce,rfl⟩:=aT hve
 have HBE2:=Lib.hid (HBE1.out.trans (hb2.mono HBE1.out.size))
 have HS2:=Lib.hid (HS1.out.below hb2)
 clear v3 hve hb2
 simp only[List.length_nil]
 go_wp2_with fail
 go_loopw [24] (fun k wr=>k= .int .i64 0∧wr=w2) (fun k _=>0)
 case atStart=>exact⟨rfl,rfl⟩
 case round=>
  obtain⟨rfl,rfl⟩:=hrel
  go_wp2_with fail
  go_ret2
  exact⟨⟨ps,B,rfl,HS2.out⟩,HBE2.out⟩
theorem jF:∀k,bP (fun _=>none) k=[]
 |0=>rfl
 |k+1=>by rw[oH rfl,jF k]
theorem BZ (i:aV) (v:bk) (e0:0≤v.epoch) (e1:v.epoch≤4294967295) (hE:i9 v.vers v.epoch=[]) (hvn:v.vers.length≤4096):Ed i v 0 (dm []):=by
 refine⟨by decide,by decide,bK _,fun w ps=>∃B,jn w ps B 0 v.epoch (.map []),fun wx hx'=> ?_, ?_, ?_⟩
 ·refine(rj i v v.epoch wx hx' e0 e1 hE hvn).mono ?_
  rintro e w' ⟨⟨ps,B,he,hs⟩,hb'⟩
  exact⟨⟨ps,he,B,hs⟩,hb'⟩
 ·rintro wx ps ⟨B,hs⟩
  exact sE ps B 0 v.epoch _ wx hs
 ·rintro wx ps ⟨B,hs⟩
  have hr:=uR ps B 0 v.epoch (.map []) (fun _=>none) wx hs kM.none ju.none (by rw[jF];exact Nat.zero_le _)
  rw[jF]at hr
  exact hr
theorem zB {v:bk} (h:gz v) {cnt:Int} (n0:0≤cnt) (n1:cnt≤4096) {s t:ByteArray} (hs:s.size=32) (ht:t.size=32):
  gw (v.sealed++[⟨aW v cnt s,t⟩]) (v.sealed.length:Int)=(⟨(v.sealed.length:Int),aW v cnt s,cE v.sealed,t⟩,0):=by
 have hr:rcpAt (v.sealed++[⟨aW v cnt s,t⟩]) v.sealed.length ⟨aW v cnt s,t⟩=⟨(v.sealed.length:Int),aW v cnt s,cE v.sealed,t⟩:=by
  unfold rcpAt
  rw[List.take_left]
 have ho:cD (⟨(v.sealed.length:Int),aW v cnt s,cE v.sealed,t⟩:aK)=true:=by
  have h1:=kQ h n0 n1 hs
  have h2:=h.last
  have h3:=h.sealed
  have h4:(v.sealed.length:Int)≤4294967295:=by omega
  have h5:(aW v cnt s).kind=1:=rfl
  simp[cD,h1,h2,h4,h5,ht]
 have hc:ik (v.sealed++[⟨aW v cnt s,t⟩]) (v.sealed.length:Int)=some ⟨aW v cnt s,t⟩:=by
  simp[ik,aW]
 unfold gw
 rw[hc]
 dsimp only
 rw[Int.toNat_natCast,hr,if_pos ho]
def j8 (v:bk) (cnt:Int) (s t bl nk kb q nb:ByteArray):bk:={v with used:=v.used+1,last:=fx v v.clock,d:=im v bl kb q nb,key:=nk,sealed:=v.sealed++[⟨aW v cnt s,t⟩],epoch:=v.epoch+1,now:=v.clock}
theorem Cb (i:aV) (v:bk) (cnt:Int) (l:List UInt8) (c:dU) (w:World) (h:bA w i v) (hrv:i.rv= .pointer none) (hc:gz v) (hsc:Ed i v cnt l) (hk:c.kind=5):
  Calls Tryz.prog 34 #[.pointer (some ⟨i.vb,0,none⟩),c.v] w fun e w'=>e= .returned (.agg (eF 0).toArray)∧∃(s t bl nk kb q nb:ByteArray) (sv:Value),aj s l∧aj t (pi v.key.data.toList (cE v.sealed).data.toList (v.sealed.length:Int) (aW v cnt s))∧aj bl (holdL (dR (aW v cnt s)++t.data.toList))∧aj nk (eJ v.key.data.toList [110,101,120,116] [])∧aj kb (eX (v.last.epoch+1) nk.data.toList)∧aj q (eb (fx v v.clock))∧nb=(⟨(List.replicate 4096 0).toArray⟩:ByteArray)∧
   cC w w' i v {i with sv:=sv} (j8 v cnt s t bl nk kb q nb):=by
 obtain⟨kind,lba,epoch,time,data,name,kp,kn,kc⟩:=c
 simp only at hk
 subst hk
 have H0:=Lib.hid h
 have HC:=Lib.hid hc
 have HSC:=Lib.hid hsc
 have HRV:=Lib.hid hrv
 clear h hc hsc hrv
 go_enter Tryz.func34,Tryz.ntmps34
 go_wp2_with (first
  |((with_reducible refine ag 72 (.tmp 1) (dU.cells ⟨5,lba,epoch,time,data,name,kp,kn,kc⟩) (some 3) ?hgd ?ho ?hd ?hx ?_);(case hgd|ho|hd|hx=>rfl);(intro b3 w1 l1 B1 e1 z1))
  |((with_reducible refine ai 101 _ lR (some 4) ?hgd ?ho ?hd ?_);(case hgd|ho|hd=>rfl);(intro b4 w2 l2 B2 e2 z2))
  |fail)
 have hb2:Below w.heap.size w w2:=(e1.mono l1).trans (e2.mono (Nat.le_trans l1 (Nat.le_trans (Nat.le_of_lt z1) l2)))
 have HL4:=Lib.hid (Nat.le_trans l1 (Nat.le_trans (Nat.le_of_lt z1) l2))
 have HX3:=Lib.hid (B1.below e2 (Nat.lt_of_lt_of_le z1 l2))
 have HX4:=Lib.hid B2
 have HBE2:=Lib.hid hb2
 have H2:=Lib.hid (H0.out.below hb2)
 have HN4:=Lib.hid (H0.out.fresh HL4.out)
 clear B1 B2 e1 e2 l1 l2 z1 z2 hb2
 refine(oG i v _ H2.out).mono ?_
 rintro e w' ⟨rfl,rfl⟩
 have q0:=HX3.out.cell (i:=0) rfl
 go_wp2_with fail
 refine(qh i v cnt l _ H2.out HRV.out HC.out HSC.out).mono ?_
 rintro e w3 ⟨s,t,bl,nk,kb,q,nb,sv,ts,tt,tbl,tn,tkb,tq,hnb,he,ht⟩
 rw[zB HC.out HSC.out.n0 HSC.out.n1 (by rw[ts.size,HSC.out.len]) (by rw[tt.size,fK])]at he
 dsimp only[aK.v]at he
 subst he
 have HX:=Lib.hid (And.intro ts (And.intro tt (And.intro tbl (And.intro tn (And.intro tkb (And.intro tq hnb))))))
 have HT:=Lib.hid (cC.ahead HBE2.out ht)
 have HX43:=Lib.hid (ht.turned.blk HX4.out HN4.out)
 clear ts tt tbl tn tkb tq hnb ht q0
 go_wp2_with (first
  |((with_reducible refine aw 101 ?parts (eF 0) ?hg ?ho ?hf ?_);(case hg|ho=>rfl);(case hf=>exact rI 0))
  |((with_reducible refine af 101 (.tmp 4) (.tmp 87) b4 (eF 0) (eF 0) 101 HX43.out rfl fD (lS 0) ?hgd ?ho ?hx ?hy ?_);(case hgd|ho|hx|hy=>rfl);(intro w5 B5 o5))
  |fail)
 (try simp only[Exit.inBlock,Exit.then]);refine bodyPost_ret (gG rfl _ _ B5.range rfl Tryz.underlying101 rfl fD) rfl ⟨rfl,s,t,bl,nk,kb,q,nb,sv,HX.out.1,HX.out.2.1,HX.out.2.2.1,HX.out.2.2.2.1,HX.out.2.2.2.2.1,HX.out.2.2.2.2.2.1,HX.out.2.2.2.2.2.2,HT.out.away (o5.turned (by simp)) (HT.out.at'.notype HX43.out.ty (by decide)) HL4.out⟩
theorem qm (l:List aH) (x:aH):cE (l++[x])=x.tag:=by unfold cE;rw[List.getLast?_append];rfl
theorem zC {v:bk} (h:gz v) (cnt:Int) (s t bl nk kb q nb:ByteArray):iC (j8 v cnt s t bl nk kb q nb):=by
 have hs:=h.ok.sup
 have hg:=hs.geo
 refine⟨⟨hg, ?_, ?_, ?_, ?_, ?_, ?_, ?_, ?_⟩, ?_, ?_, ?_⟩
 ·show 1≤v.last.gen+1;have:=hs.g0;omega
 ·show v.last.gen+1≤1152921504606846976;have:=hs.g1;have:=h.gen;omega
 ·show 0≤v.used+1;have:=h.ok.u0;omega
 ·show v.used+1≤v.last.geo.blocks-4;have:=h.room;omega
 ·show v.last.geo.first≤v.last.epoch+1;have:=hs.e0;omega
 ·show v.last.epoch+1<4294967296;have:=h.ep;have:=h.e1;omega
 ·exact h.t0
 ·exact h.t1
 ·show 0≤v.used+1;have:=h.ok.u0;omega
 ·show v.used+1≤v.last.geo.blocks-4;have:=h.room;omega
 ·have hb0:=hg.b0
  have h1:=h.room
  have h2:=h.ok.u0
  exact(ri h.ok.calm h2 (by omega) (by omega) bl kb q nb).mono (Nat.zero_le _)
theorem sO {v:bk} (h:gz v) (cnt:Int) (s t bl nk kb q nb:ByteArray) (hn:nk.size=32) (ht:t.size=32) (hs:s.size≤1048576) (he:v.epoch+1<4294967295) (hr:v.used+1<v.last.geo.blocks-4) (hl:v.sealed.length≤1048574) (hg:v.last.gen+1≠1152921504606846976):gz (j8 v cnt s t bl nk kb q nb):=by
 refine⟨zC h cnt s t bl nk kb q nb,hn, ?_,he,hr, ?_, ?_, ?_, ?_,hg, ?_, ?_,h.t0,h.t1⟩
 ·show 0≤v.epoch+1;have:=h.e0;omega
 ·show(v.sealed++[_]).length≤1048575;rw[List.length_append];simp;omega
 ·exact np h.tame ⟨by show(0:Nat)≤1048576;omega,hs,by rw[ht];omega,by have:=h.e0;have:=h.e1;show Fits v.epoch;unfold Fits;omega⟩
 ·show(cE (v.sealed++[_])).size=32;rw[qm];exact ht
 ·exact Int.le_refl _
 ·show v.last.epoch+1=v.epoch+1;rw[h.ep]
 ·exact Int.le_refl _
theorem Ia (n:Nat) (v:Value) (i:Nat) (kb q:ByteArray):Calm (bO n v i kb q) n 0:=
 ⟨rfl,rfl,by show(((List.replicate n ch).set i kb).set 1 q).length=n;simp,fun j p hj=>by simp[bO]at hj,Nat.le_refl _⟩
def yy (key data kb q:ByteArray) (vv:Value):bk:=pQ key data 1 0 12 1 0 0 (bO 12 vv 2 kb q)
theorem Cc (key data kb q:ByteArray) (vv:Value) (hk:key.size=32):gz (yy key data kb q vv):=by
 have ok:iC (yy key data kb q vv):=by
  refine⟨⟨⟨?_, ?_, ?_, ?_, ?_, ?_⟩, ?_, ?_, ?_, ?_, ?_, ?_, ?_, ?_⟩, ?_, ?_,Ia 12 vv 2 kb q⟩<;>simp[yy,pQ]
 refine⟨ok,hk, ?_, ?_, ?_, ?_,(show gx []from fun j x hx=>by simp at hx),rfl, ?_, ?_, ?_, ?_, ?_, ?_⟩<;>simp[yy,pQ]
theorem oM (first:Int) (l:List Rec) (x:Rec) (h:x.kind=1):bh first (l++[x])=bh first l+1:=by
 unfold bh
 rw[List.filter_append,List.length_append]
 simp[h]
 omega
theorem Cd (l:List Rec) (x:Rec):iG (l++[x])=x.time:=by unfold iG;rw[List.getLast?_append];rfl
theorem sP {r:dj} {KY:ByteArray} (h:kw r KY) (s t nk:ByteArray) (hs:s.size≤1048576) (ht:t.size=32) (hn:nk.size=32) (n1:r.recs.length≤1048573) (n2:bh r.first r.recs+1<4294967295) (n3:r.used+1<r.geo.blocks-4) (n4:r.cells.length≤1048574) (n5:r.sealed.length≤1048574) (n6:r.held.length≤1048574) (n7:r.keys.length≤1048574) (n8:r.sup.gen+1≤1099511627776):kw (lU r s t nk) nk:=by
 refine⟨h.geo,h.vers,h.f0,h.f1, ?_, ?_, ?_,n3, ?_,h.t0,h.t1, ?_,hn, ?_, ?_, ?_, ?_, ?_, ?_, ?_, ?_,n8⟩
 ·show(r.recs++[_]).length≤1048574;rw[List.length_append];simp;omega
 ·show bh r.first (r.recs++[_])<4294967295;rw[oM _ _ _ rfl];exact n2
 ·show 0≤r.used+1;have:=h.u0;omega
 ·show iG (r.recs++[_])≤r.clock;rw[Cd];exact Int.le_refl _
 ·show(r.keys++[nk]).getLast?=some nk;rw[List.getLast?_append];rfl
 ·intro x hx
  rcases List.mem_append.1 hx with h1|h1
  ·exact h.none x h1
  ·simp at h1;subst h1;show(-1:Int)<0;decide
 ·show(r.cells++[_]).length≤1048575;rw[List.length_append];simp;omega
 ·show(r.sealed++[_]).length≤1048575;rw[List.length_append];simp;omega
 ·show(r.held++[_]).length≤1048575;rw[List.length_append];simp;omega
 ·show(r.keys++[_]).length≤1048575;rw[List.length_append];simp;omega
 ·exact np h.tame ⟨by show(0:Nat)≤1048576;omega,hs,by rw[ht];omega,by have h1:=(kR r.first r.recs).1;have h2:=h.f0;have h3:=h.ep;show Fits (bh r.first r.recs);unfold Fits;omega⟩
 ·show(cE (r.sealed++[_])).size=32;rw[qm];exact ht
 ·show 0≤r.sup.gen+1;have:=h.g0;omega
theorem zE (root key:ByteArray) (hk:key.size=32):kw (tD ⟨12,1,0⟩ root key) key:=by
 refine⟨⟨?_, ?_, ?_, ?_, ?_, ?_⟩,rfl, ?_, ?_, ?_, ?_, ?_, ?_, ?_, ?_, ?_,rfl,hk, ?_, ?_, ?_, ?_, ?_,(show gx []from fun j x hx=>by simp at hx),rfl, ?_, ?_⟩<;>simp[tD,bh,iG]
def dn:dU:=⟨5,0,0,0,⟨#[]⟩,⟨#[]⟩,none,0,0⟩
def tG:dU:=⟨0,0,0,0,⟨#[]⟩,⟨#[]⟩,none,0,0⟩
theorem zF (w:World):(zeroValue 72).run Tryz.prog w= .ok (.agg tG.cells.toArray) w:=by kernel_rfl
theorem zG:ByteArray.size (⟨#[]⟩:ByteArray)=0:=rfl
theorem Ce (g:Nat) (w:World) (h:ab w g (dn.cells++dn.cells) 72):
  Calls Tryz.prog 31 #[.slice (some ⟨g,0,none⟩) 2 2] w fun e w'=>e= .returned (.bool true)∧Below w.heap.size w w':=by
 have H0:=Lib.hid h
 have es:=zG
 have es':((ByteArray.size (⟨#[]⟩:ByteArray):Nat):Int)=0:=rfl
 clear h
 go_enter Tryz.func31,Tryz.ntmps31
 go_wp2_with fail
 go_loopw [3,4] (fun vn vi wr=>vn= .int .i64 0∧∃k:Nat,k≤2∧vi= .int .i64 k∧Hid (Below w.heap.size w wr)) (fun _ vi _=>2-(intOf vi).toNat)
 case atStart=>exact⟨rfl,0,by omega,rfl,Lib.hid (Below.refl _ _)⟩
 case round=>
  obtain⟨rfl,k,hk,rfl,HB⟩:=hrel
  have HH:=Lib.hid (H0.out.below HB.out H0.out.lt)
  by_cases hlt:k<2
  ·rcases(show k=0∨k=1 from by omega)with rfl|rfl
   ·have d4:=HH.out.cell (i:=4) rfl
    have d5:=HH.out.cell (i:=5) rfl
    have d6:=HH.out.cell (i:=6) rfl
    go_wp2_with fail
    go_quiet (fail)
    go_wp2_with fail
    go_roundw
    case rel=>exact⟨by go_num,1,by omega,by go_num,Lib.hid (Below.drewN HB.out _)⟩
    case measure=>simp[intOf]
   ·have d4:=HH.out.cell (i:=11) rfl
    have d5:=HH.out.cell (i:=12) rfl
    have d6:=HH.out.cell (i:=13) rfl
    go_wp2_with fail
    go_quiet (fail)
    go_wp2_with fail
    go_roundw
    case rel=>exact⟨by go_num,2,by omega,by go_num,Lib.hid (Below.drewN HB.out _)⟩
    case measure=>simp[intOf]
  ·obtain rfl:k=2:=by omega
   go_wp2_with fail
   go_ret
   exact⟨rfl,HB.out⟩
structure zH (w0 wr:World) (k:Nat) (vb rb:Nat):Prop where
 ex:∃(i:aV) (v:bk) (i':bY) (r:dj) (KY:ByteArray),i.vb=vb∧i'.rb=rb∧bA wr i v∧bN wr i' r∧(∀x,x∈i.foot v.d→x∉i'.foot)∧(k<2→gz v∧kw r KY)∧i.rv= .pointer none∧v.vers=[]∧v.epoch=k∧v.key.size=32∧
  v.used=k∧v.last.geo=⟨12,1,0⟩∧v.sealed.length=k∧v.last.gen=k+1∧r.used=k∧r.geo=⟨12,1,0⟩∧bh r.first r.recs=k∧r.recs.length=k∧r.cells.length=k∧r.sealed.length=k∧r.held.length=k∧r.keys.length=k+1∧r.sup.gen=k+1∧
  Below w0.heap.size w0 wr∧(∀x,x∈i.foot v.d→w0.heap.size≤x)∧(∀x,x∈i'.foot→w0.heap.size≤x)
theorem vd {f:FuncId} {a b:Nat} {c:Value} {w:World} {Q} (h:a=b) (H:Calls Tryz.prog f #[.pointer (some ⟨a,0,none⟩),c] w Q):Calls Tryz.prog f #[.pointer (some ⟨b,0,none⟩),c] w Q:=by subst h;exact H
theorem Cf {w:World} {g:Nat} {t:TypeId} (h:ab w g (dn.cells++dn.cells) t) (k:Nat) (hk:k<2):w.rangeAt g (k*7) dn.cells:=by
 intro j v hv
 have hj:=(List.getElem?_eq_some_iff.1 hv).1
 have hl:dn.cells.length=7:=rfl
 rcases(show k=0∨k=1 from by omega)with rfl|rfl
 ·rw[Nat.zero_mul,Nat.zero_add]
  exact h.cell (by rw[List.getElem?_append_left hj];exact hv)
 ·rw[Nat.one_mul]
  exact h.cell (by rw[List.getElem?_append_right (by omega),hl,Nat.add_sub_cancel_left];exact hv)
theorem vf (g:Nat) (w:World) (h:ab w g (dn.cells++dn.cells) 72):
  Calls Tryz.prog 14 #[(⟨12,1,0⟩:ay).v, .string (⟨#[48,49,50,51,52,53,54,55,56,57,97,98,99,100,101,102,48,49,50,51,52,53,54,55,56,57,97,98,99,100,101,102]⟩:ByteArray), .slice (some ⟨g,0,none⟩) 2 2] w fun e w'=>∃vb rb,e= .returned (.tuple #[.pointer (some ⟨vb,0,none⟩), .pointer (some ⟨rb,0,none⟩)])∧zH w w' 2 vb rb:=by
 have H0:=Lib.hid h
 clear h
 go_enter Tryz.func14,Tryz.ntmps14
 go_wp2_with (first
  |((with_reducible refine ag 69 (.tmp 0) (ay.cells (⟨12,1,0⟩:ay)) (some 3) ?hgd ?ho ?hd ?hx ?_);(case hgd|ho|hd|hx=>rfl);(intro b3 w1 l1 B1 e1 z1))
  |((with_reducible refine ae 69 (.tmp 3) b3 0 ((ay.cells (⟨12,1,0⟩:ay))) _ (some 15) (B1.range) Tryz.underlying69 rfl bu ?hg ?ho ?hds ?hx ?_);(case ho|hg|hds|hx=>rfl))
  |fail)
 have HX1:=Lib.hid B1
 have HBE1:=Lib.hid (e1.mono l1)
 have HG1:=Lib.hid (H0.out.below (e1.mono l1) H0.out.lt)
 clear B1 e1 z1 l1
 refine(xq (⟨12,1,0⟩:ay) (⟨#[48,49,50,51,52,53,54,55,56,57,97,98,99,100,101,102,48,49,50,51,52,53,54,55,56,57,97,98,99,100,101,102]⟩:ByteArray) _ ⟨by decide,by decide,by decide,by decide,by decide,by decide⟩ (by decide)).mono ?_
 rintro e w2 ⟨⟨rb,mb,kv,key0,rfl,tk0,hr2,hf2⟩,hb2⟩
 have HX2:=Lib.hid (HX1.out.below hb2 HX1.out.lt)
 have HBE2:=Lib.hid (HBE1.out.trans (hb2.mono HBE1.out.size))
 have HG2:=Lib.hid (HG1.out.below hb2 HG1.out.lt)
 have HR2:=Lib.hid hr2
 have HF2:=Lib.hid (fun x hx=>Nat.le_trans HBE1.out.size (hf2 x hx))
 have HK0:=Lib.hid (show key0.size=32 from by rw[tk0.size,qI])
 clear tk0 hr2 hf2 hb2
 go_wp2_with (first
  |((with_reducible refine ae 69 (.tmp 3) b3 0 ((ay.cells (⟨12,1,0⟩:ay))) _ (some 21) (HX2.out.range) Tryz.underlying69 rfl bu ?hg ?ho ?hds ?hx ?_);(case ho|hg|hds|hx=>rfl))
  |fail)
 refine(xo (⟨12,1,0⟩:ay) _).mono ?_
 rintro e w3 ⟨he,hb3⟩
 have he':e= .returned (.bool true):=by rw[he];rfl
 clear he
 subst he'
 have HX3:=Lib.hid (HX2.out.below hb3 HX2.out.lt)
 have HBE3:=Lib.hid (HBE2.out.trans (hb3.mono HBE2.out.size))
 have HG3:=Lib.hid (HG2.out.below hb3 HG2.out.lt)
 have HR3:=Lib.hid (HR2.out.below hb3)
 clear hb3
 go_wp2_with fail
 refine(Ce g _ HG3.out).mono ?_
 rintro e w4 ⟨rfl,hb4⟩
 have HX4:=Lib.hid (HX3.out.below hb4 HX3.out.lt)
 have HBE4:=Lib.hid (HBE3.out.trans (hb4.mono HBE3.out.size))
 have HG4:=Lib.hid (HG3.out.below hb4 HG3.out.lt)
 have HR4:=Lib.hid (HR3.out.below hb4)
 clear hb4
 have x0:w4.cell? ⟨b3,0,none⟩=some (.int .i64 12):=HX4.out.cell (i:=0) rfl
 go_wp2_with fail
 refine(show Calls Tryz.prog 32 #[.int .i64 12] w4 _ from AO 12 w4 (by decide) (by decide)).mono ?_
 rintro e w5 ⟨⟨db,vv,rfl,hd,hdf⟩,hb5⟩
 have HX5:=Lib.hid (HX4.out.below hb5 HX4.out.lt)
 have HBE5:=Lib.hid (HBE4.out.trans (hb5.mono HBE4.out.size))
 have HG5:=Lib.hid (HG4.out.below hb5 HG4.out.lt)
 have HR5:=Lib.hid (HR4.out.below hb5)
 have HD:=Lib.hid hd
 have HDF:=Lib.hid hdf
 have HS45:=Lib.hid hb5.size
 clear hd hdf hb5 x0
 go_wp2_with (first
  |((with_reducible refine ae 69 (.tmp 3) b3 0 ((ay.cells (⟨12,1,0⟩:ay))) _ (some 38) (HX5.out.range) Tryz.underlying69 rfl bu ?hg ?ho ?hds ?hx ?_);(case ho|hg|hds|hx=>rfl))
  |fail)
 refine(show Calls Tryz.prog 33 #[.pointer (some ⟨db,0,none⟩),(⟨12,1,0⟩:ay).v, .string (⟨#[48,49,50,51,52,53,54,55,56,57,97,98,99,100,101,102,48,49,50,51,52,53,54,55,56,57,97,98,99,100,101,102]⟩:ByteArray)] w5 _ from u5 db 12 0 1 vv (⟨#[48,49,50,51,52,53,54,55,56,57,97,98,99,100,101,102,48,49,50,51,52,53,54,55,56,57,97,98,99,100,101,102]⟩:ByteArray) w5 ⟨by decide,by decide,by decide,by decide,by decide,by decide⟩ (by decide) HD.out).mono ?_
 rintro e w6 ⟨vb,jb,sb,xb,bb,cb,cc,m1,m2,m3,key,data,kb,q,rfl,td,tk,tkb,tq,hdt,hv⟩
 have hfo:∀x,x∈(nU vb jb sb db xb bb cb cc m1 m2 m3 none).foot (yy key data kb q vv).d→w4.heap.size≤x:=hv.foot_ge HS45.out (fun x hx=>(hdt.foot x hx).elim (HDF.out x) (fun h=>Nat.le_trans HS45.out h))
 have HA:=Lib.hid (show zH w w6 0 vb rb from⟨_,yy key data kb q vv,mo rb mb kv,tD (⟨12,1,0⟩:ay) (⟨#[48,49,50,51,52,53,54,55,56,57,97,98,99,100,101,102,48,49,50,51,52,53,54,55,56,57,97,98,99,100,101,102]⟩:ByteArray) key0,key0,rfl,rfl,hv.at,HR5.out.away hdt.turned (fun x hx hm=>by have h1:=HDF.out x hm;have h2:=HR4.out.foot_lt x hx;omega),fun x hx hm=>by have h1:=hfo x hx;have h2:=HR4.out.foot_lt x hm;omega,fun _=>⟨Cc key data kb q vv (by rw[tk.size,dB]),zE _ key0 HK0.out⟩,rfl,rfl,rfl,by show key.size=32;rw[tk.size,dB],rfl,rfl,rfl,rfl,rfl,rfl,rfl,rfl,rfl,rfl,rfl,rfl,rfl,
  hdt.turned.below HBE5.out (fun x hx=>Nat.le_trans HBE4.out.size (HDF.out x hx)) HBE5.out.size,fun x hx=>Nat.le_trans HBE4.out.size (hfo x hx),fun x hx=>HF2.out x hx⟩)
 have HG6:=Lib.hid (hdt.turned.blk HG5.out (fun hm=>by have h1:=HDF.out g hm;have h2:=HG4.out.lt;omega))
 clear td tk tkb tq hdt hv hfo
 go_wp2_with fail
 go_loopw [45] (fun vk wr=>∃k:Nat,k≤2∧vk= .int .i64 k∧Hid (zH w wr k vb rb)∧Hid (ab wr g (dn.cells++dn.cells) 72)) (fun vk _=>2-(intOf vk).toNat)
 case atStart=>exact⟨0,Nat.zero_le _,rfl,HA,HG6⟩
 case round=>
  obtain⟨k,hk,rfl,HAk,HGk⟩:=hrel
  by_cases hlt:k<2
  ·have hlt':(k:Int)<2:=by omega
   have HRG:=Lib.hid (Cf HGk.out k hlt)
   go_wp2_with (first
    |((with_reducible refine ae 72 (.tmp 47) g (k*7) (dn.cells) _ (some 48) (HRG.out) Tryz.underlying72 rfl ku ?hg ?ho ?hds ?hx ?_);(case ho|hg|hds|hx=>rfl))
    |((with_reducible refine ai 72 _ zF (some 14) ?hgd ?ho ?hd ?_);(case hgd|ho|hd=>rfl);(intro b14 w7 l7 B7 e7 z7))
    |((with_reducible refine af 72 (.tmp 14) (.tmp 48) b14 tG.cells dn.cells 72 B7 rfl ku (dU.one _) ?hgd ?ho ?hx ?hy ?_);(case hgd|ho|hx|hy=>rfl);(intro w8 B8 o8))
    |((with_reducible refine ae 72 (.tmp 14) b14 0 (dn.cells) _ (some 50) (B8.range) Tryz.underlying72 rfl ku ?hg ?ho ?hds ?hx ?_);(case ho|hg|hds|hx=>rfl))
    |fail)
   have hb8:Below wr.heap.size wr w8:=o8.below (e7.mono l7) l7
   obtain⟨i,v,i',r,KY,hvb,hrb,hv,hr,hdis,hcl,hrv,hvers,hep,hks,hu,hgeo,hsl,hgen,ru,rg,rep,rn1,rn2,rn3,rn4,rn5,rg2,hbe,hfv,hfr⟩:=HAk.out
   obtain⟨hco,hcr⟩:=hcl hlt
   have hv8:=hv.below hb8
   have hr8:=hr.below hb8
   have HN14:=Lib.hid (hv.fresh l7)
   have HN14r:=Lib.hid (hr.fresh l7)
   have HX14:=Lib.hid B8
   have HG8:=Lib.hid (HGk.out.below hb8 HGk.out.lt)
   have hdo:=vd hvb (Cb i v 0 (dm []) dn w8 hv8 hrv hco (BZ i v (by omega) (by omega) (by rw[hvers];rfl) (by rw[hvers];exact Nat.zero_le _)) rfl)
   have HDO:=Lib.hid hdo
   have HGF:=Lib.hid (show g∉i.foot v.d∧g∉i'.foot from⟨fun hm=>by have h1:=hfv g hm;have h2:=H0.out.lt;omega,fun hm=>by have h1:=hfr g hm;have h2:=H0.out.lt;omega⟩)
   have HFACT:=Lib.hid (show ∀(s t bl nk kb q nb:ByteArray) (sv:Value) (wy:World),aj s (dm [])→t.size=32→nk.size=32→cC w8 wy i v {i with sv:=sv} (j8 v 0 s t bl nk kb q nb)→bN wy i' r∧(∀(s2 t2 nk2:ByteArray) (i2:bY) (wz:World),aj s2 (dm [])→t2.size=32→nk2.size=32→i2.rb=i'.rb→cS wy wz i' i2 (lU r s2 t2 nk2)→zH w wz (k+1) vb rb)from by
    intro s t bl nk kb q nb sv wy hs ht hn hto
    have hra:bN wy i' r:=hr8.away hto.turned (fun x hx hm=>hdis x hm hx)
    refine⟨hra,fun s2 t2 nk2 i2 wz hs2 ht2 hn2 hrb2 hto2=> ?_⟩
    have hd1:∀x,x∈({i with sv:=sv}:aV).foot (j8 v 0 s t bl nk kb q nb).d→x∉i'.foot:=fun x hx hm=>by
     rcases hto.foot x hx with h|h
     ·exact hdis x h hm
     ·have:=hr8.foot_lt x hm;omega
    have hz:s.size=32:=by rw[hs.size,bK]
    have hz2:s2.size=32:=by rw[hs2.size,bK]
    refine⟨{i with sv:=sv},j8 v 0 s t bl nk kb q nb,i2,lU r s2 t2 nk2,nk2,hvb, ?_,hto.at'.away hto2.turned hd1,hto2.at',fun x hx hm=> ?_,fun hk1=>⟨sO hco 0 s t bl nk kb q nb hn ht (by omega) (by omega) (by rw[hgeo];show v.used+1<12-4;omega) (by omega) (by omega),sP hcr s2 t2 nk2 (by omega) ht2 hn2 (by omega) (by omega) (by rw[rg];show r.used+1<12-4;omega) (by omega) (by omega) (by omega) (by omega) (by omega)⟩,hrv,hvers, ?_,hn, ?_,hgeo, ?_, ?_, ?_,rg, ?_, ?_, ?_, ?_, ?_, ?_, ?_, ?_, ?_, ?_⟩
    ·exact hrb2.trans hrb
    ·rcases hto2.foot x hm with h|h
     ·exact hd1 x hx h
     ·have:=hto.at'.foot_lt x hx;omega
    ·show v.epoch+1=((k+1:Nat):Int);omega
    ·show v.used+1=((k+1:Nat):Int);omega
    ·show(v.sealed++[_]).length=k+1;rw[List.length_append];simp;omega
    ·show v.last.gen+1=((k+1:Nat):Int)+1;omega
    ·show r.used+1=((k+1:Nat):Int);omega
    ·show bh r.first (r.recs++[_])=((k+1:Nat):Int);rw[oM _ _ _ rfl];omega
    ·show(r.recs++[_]).length=k+1;rw[List.length_append];simp;omega
    ·show(r.cells++[_]).length=k+1;rw[List.length_append];simp;omega
    ·show(r.sealed++[_]).length=k+1;rw[List.length_append];simp;omega
    ·show(r.held++[_]).length=k+1;rw[List.length_append];simp;omega
    ·show(r.keys++[_]).length=k+1+1;rw[List.length_append];simp;omega
    ·show r.sup.gen+1=((k+1:Nat):Int)+1;omega
    ·exact hto2.turned.below (hto.turned.below (hbe.trans (hb8.mono hbe.size)) hfv (Nat.le_trans hbe.size hb8.size)) hfr (Nat.le_trans (Nat.le_trans hbe.size hb8.size) hto.turned.size)
    ·intro x hx
     rcases hto.foot x hx with h|h
     ·exact hfv x h
     ·exact Nat.le_trans (Nat.le_trans hbe.size hb8.size) h
    ·intro x hx
     rcases hto2.foot x hx with h|h
     ·exact hfr x h
     ·exact Nat.le_trans (Nat.le_trans (Nat.le_trans hbe.size hb8.size) hto.turned.size) h)
   have HCR:=Lib.hid hcr
   clear hdo hb8 hv hr hdis hcl hrv hvers hep hks hu hgeo hsl hgen ru rg rep rn1 rn2 rn3 rn4 rn5 rg2 hbe hfv hfr hco hcr hv8 hr8 B7 B8 e7 l7 z7 o8
   refine HDO.out.mono ?_
   rintro e wy ⟨rfl,s,t,bl,nk,kb,q,nb,sv,ts,tt,tbl,tn,tkb,tq,hnb,hto⟩
   obtain⟨hra,hnext⟩:=HFACT.out s t bl nk kb q nb sv wy ts (by rw[tt.size,fK]) (by rw[tn.size,dB]) hto
   have HX14y:=Lib.hid (hto.turned.blk HX14.out HN14.out)
   have HGy:=Lib.hid (hto.turned.blk HG8.out HGF.out.1)
   have hdr:=vd hrb (xt i' r KY dn wy hra HCR.out rfl)
   have HDR:=Lib.hid hdr
   have HNX:=Lib.hid hnext
   clear ts tt tbl tn tkb tq hnb hto hra hnext hdr
   go_wp2_with (first
    |((with_reducible refine ae 72 (.tmp 14) b14 0 (dn.cells) _ (some 53) (HX14y.out.range) Tryz.underlying72 rfl ku ?hg ?ho ?hds ?hx ?_);(case ho|hg|hds|hx=>rfl))
    |fail)
   refine HDR.out.mono ?_
   rintro e wz ⟨rfl,i2,s2,t2,nk2,ts2,tn2,tt2,hrb2,hto2⟩
   have HAz:=Lib.hid (HNX.out s2 t2 nk2 i2 wz ts2 tt2 (by rw[tn2.size,dB]) hrb2 hto2)
   have HGz:=Lib.hid (hto2.turned.blk HGy.out HGF.out.2)
   clear ts2 tn2 tt2 hto2 hrb2
   go_wp2_with fail
   go_roundw
   case rel=>exact⟨k+1,by omega,by go_num,HAz,HGz⟩
   case measure=>simp[intOf];omega
  ·obtain rfl:k=2:=by omega
   go_wp2_with fail
   go_ret2
   exact⟨vb,rb,rfl,HAk.out⟩
def IW (ys:List aK):List Value:=ys.flatMap aK.cells
structure I9 (W0 w:World) (pl po:Nat) (v:Value) (ys:List aK):Prop where
 lies:ab w pl [v] 45
 out:∃vo,ab w po [vo] 85∧w.ownsRow (po+1) 37 11 vo ys.length (IW ys)
 bel:Below W0.heap.size W0 w
theorem kS {x:aK} (h:cD x=true):am x.r=true∧0≤x.r.epoch∧x.r.epoch≤4294967295:=by
 simp only[cD,Bool.and_eq_true,decide_eq_true_eq]at h
 have h1:=h.1.1.1.2
 have h2:=h1
 simp only[am,Bool.and_eq_true,decide_eq_true_eq]at h2
 exact⟨h1,by omega,by omega⟩
def tH (l:List Int) (root name:List UInt8):Rec:=⟨l.getD 0 0,l.getD 1 0,l.getD 2 0,l.getD 3 0,l.getD 4 0,l.getD 5 0,⟨root.toArray⟩,⟨name.toArray⟩⟩
def bL (l:List UInt8):Option (Rec×List UInt8):=
 if l.length<29 then none else
 match bB [1,4,8,4,4,8] (l.take 29),dZ (l.drop 29)with
 |some ns,some (root,behind)=>
  match dZ behind with
  |some (name,left)=>if am (tH ns root name)then some (tH ns root name,left)else none
  |none=>none
 |_,_=>none
theorem xu {l:List UInt8} {ns:List Int} (hl:l.length=29) (h:bB [1,4,8,4,4,8] l=some ns):
  ∃a b c d e f:Nat,ns=[(a:Int),b,c,d,e,f]∧l=beBytes 1 a++(beBytes 4 b++(beBytes 8 c++(beBytes 4 d++(beBytes 4 e++beBytes 8 f)))):=by
 simp only[bB]at h
 have key:∀{rest:Option (List Int)} {n:Int} {ok:Bool} {ns:List Int},(if ok=true then rest.map (n::·)else none)=some ns→∃m,rest=some m∧n::m=ns:=by
  intro rest n ok ns h
  split at h
  ·cases rest with
   |none=>cases h
   |some m=>simp at h;exact⟨m,rfl,h⟩
  ·cases h
 obtain⟨m1,h,e1⟩:=key h
 obtain⟨m2,h,e2⟩:=key h
 obtain⟨m3,h,e3⟩:=key h
 obtain⟨m4,h,e4⟩:=key h
 obtain⟨m5,h,e5⟩:=key h
 obtain⟨m6,h,e6⟩:=key h
 injection h with h
 subst h
 subst e6 e5 e4 e3 e2 e1
 refine⟨_,_,_,_,_,_,rfl, ?_⟩
 rw[dF 1 _ (by simp;omega),dF 4 _ (by simp;omega),dF 8 _ (by simp;omega),dF 4 _ (by simp;omega),dF 4 _ (by simp;omega),dF 8 _ (by simp;omega)]
 rw[List.take_of_length_le (l:=List.drop 4 (List.drop 4 (List.drop 8 (List.drop 4 (List.drop 1 l))))) (by simp;omega),List.take_append_drop,List.take_append_drop,List.take_append_drop,List.take_append_drop,List.take_append_drop]
theorem Ci (a b c d e f:Int):fR bW [a,b,c,d,e,f]=beBytes 1 a.toNat++(beBytes 4 b.toNat++(beBytes 8 c.toNat++(beBytes 4 d.toNat++(beBytes 4 e.toNat++beBytes 8 f.toNat)))):=by
 simp[fR,bW]
theorem iI {l s:List UInt8} {r:Rec} (h:bL l=some (r,s)):l=dR r++s∧am r=true:=by
 unfold bL at h
 split at h
 ·cases h
 ·next hl=>
  cases hu:bB [1,4,8,4,4,8] (l.take 29)with
  |none=>rw[hu]at h;cases h
  |some ns=>
   cases hc:dZ (l.drop 29)with
   |none=>rw[hu,hc]at h;cases h
   |some p=>
    obtain⟨root,behind⟩:=p
    rw[hu,hc]at h
    simp only at h
    cases hd:dZ behind with
    |none=>rw[hd]at h;cases h
    |some q=>
     obtain⟨name,left⟩:=q
     rw[hd]at h
     simp only at h
     split at h
     ·next hok=>
      injection h with h
      injection h with h1 h2
      subst h1 h2
      refine⟨?_,hok⟩
      obtain⟨a,b,c,d,e,f,rfl,hb⟩:=xu (by rw[List.length_take];omega) hu
      have e1:=(nQ hc).1
      have e2:=(nQ hd).1
      conv=>lhs;rw[←List.take_append_drop 29 l,hb,e1,e2]
      show _=fR bW [(a:Int),b,c,d,e,f]++cZ root++cZ name++left
      rw[Ci]
      simp
     ·cases h
def iJ (x:aK):List UInt8:=beBytes 4 x.seq.toNat++x.was.data.toList++x.tag.data.toList++dR x.r
def cT (l:List UInt8):Option (aK×List UInt8):=
 if l.length<68 then none else
 match bL (l.drop 68)with
 |some (r,left)=>if cD ⟨((aR (l.take 4):Nat):Int),r,⟨((l.drop 4).take 32).toArray⟩,⟨((l.drop 36).take 32).toArray⟩⟩then some (⟨((aR (l.take 4):Nat):Int),r,⟨((l.drop 4).take 32).toArray⟩,⟨((l.drop 36).take 32).toArray⟩⟩,left)else none
 |none=>none
theorem nz {l s:List UInt8} {x:aK} (h:cT l=some (x,s)):l=iJ x++s∧cD x=true:=by
 unfold cT at h
 split at h
 ·cases h
 ·next hl=>
  cases hr:bL (l.drop 68)with
  |none=>rw[hr]at h;cases h
  |some p=>
   obtain⟨r,left⟩:=p
   rw[hr]at h
   simp only at h
   split at h
   ·next hok=>
    injection h with h
    injection h with h1 h2
    subst h1 h2
    refine⟨?_,hok⟩
    have e1:=(iI hr).1
    unfold iJ
    simp only[Int.toNat_natCast]
    rw[dF 4 _ (by rw[List.length_take];omega),List.append_assoc,←e1]
    have e2:l.drop 36=(l.drop 4).drop 32:=by rw[List.drop_drop]
    have e3:l.drop 68=(l.drop 36).drop 32:=by rw[List.drop_drop]
    rw[List.append_assoc,List.append_assoc,e3,List.take_append_drop,e2,List.take_append_drop,List.take_append_drop]
   ·cases h
structure aM where
 lba:Int
 hash:ByteArray
deriving instance DecidableEq for aM
def aM.cells (x:aM):List Value:=[.int .i64 x.lba, .string x.hash]
def aM.v (x:aM):Value:= .agg #[.int .i64 x.lba, .string x.hash]
def aM.zero:aM:=⟨0,⟨#[]⟩⟩
def dJ (x:aM):Bool:=decide (0≤x.lba)&&decide (x.lba<4096)&&decide ((x.hash.size:Int)=32)
def cV (x:aM):Bool:=decide (x=aM.zero)||dJ x
def cj (n:Int):Bool:=decide (0≤n)&&decide (n≤4294967295)
def fE (e l:Int):Bool:=cj e&&(decide (0≤l)&&decide (l≤4095))
def dG (l:List ByteArray):Bool:=l.all (fun s=>decide (s.size=32))
structure ax where
 askE:Int
 askL:Int
 gone:Bool
 found:Bool
 at_:Int
 here:aM
 ahead:aM
 up:List ByteArray
 left:List ByteArray
 slot:Int
 cipher:ByteArray
deriving instance DecidableEq for ax
def ax.cells (t:ax) (u l:Value):List Value:=[.int .i64 t.askE, .int .i64 t.askL, .bool t.gone, .bool t.found, .int .i64 t.at_, .int .i64 t.here.lba, .string t.here.hash, .int .i64 t.ahead.lba, .string t.ahead.hash,u,l, .int .i64 t.slot, .string t.cipher]
def ax.v (t:ax) (u l:Value):Value:= .agg #[.int .i64 t.askE, .int .i64 t.askL, .bool t.gone, .bool t.found, .int .i64 t.at_, .int .i64 t.here.lba, .string t.here.hash, .int .i64 t.ahead.lba, .string t.ahead.hash,u,l, .int .i64 t.slot, .string t.cipher]
def ax.zero:ax:=⟨0,0,false,false,0,aM.zero,aM.zero,[],[],0,⟨#[]⟩⟩
def mp (t:ax):Bool:=decide (t.slot=0)&&decide (t.cipher=⟨#[]⟩)&& !t.found&&decide (t.at_=0)&&decide (t.here=aM.zero)&&decide (t.ahead=aM.zero)&&decide (t.up.length+t.left.length=0)
def dz (t:ax):Bool:=
 if t.gone then fE t.askE t.askL&&mp t
 else fE t.askE t.askL&&cj t.slot&&decide ((t.cipher.size:Int)≤4000)&&(decide (0≤t.at_)&&decide (t.at_≤4096))&&cV t.here&&cV t.ahead&&(decide (t.up.length≤12)&&decide (t.left.length≤12)&&dG t.up&&dG t.left)
def aH.zero:aH:=⟨Rec.zero,⟨#[]⟩⟩
structure ac where
 kind:Int
 epoch:Int
 seq:Int
 nonce:ByteArray
 tag:ByteArray
 last:ByteArray
 askE:Int
 askL:Int
 sld:aH
 told:ax
 rcp:aK
deriving instance DecidableEq for ac
def ac.zero:ac:=⟨0,0,0,⟨#[]⟩,⟨#[]⟩,⟨#[]⟩,0,0,aH.zero,ax.zero,aK.zero⟩
def ac.cells (m:ac) (u l:Value):List Value:=
 [.int .i64 m.kind, .int .i64 m.epoch, .int .i64 m.seq, .string m.nonce, .string m.tag, .string m.last, .int .i64 m.askE, .int .i64 m.askL,
  .int .i64 m.sld.r.kind, .int .i64 m.sld.r.epoch, .int .i64 m.sld.r.time, .int .i64 m.sld.r.count, .int .i64 m.sld.r.target, .int .i64 m.sld.r.till, .string m.sld.r.root, .string m.sld.r.name, .string m.sld.tag,
  .int .i64 m.told.askE, .int .i64 m.told.askL, .bool m.told.gone, .bool m.told.found, .int .i64 m.told.at_, .int .i64 m.told.here.lba, .string m.told.here.hash, .int .i64 m.told.ahead.lba, .string m.told.ahead.hash,u,l, .int .i64 m.told.slot, .string m.told.cipher,
  .int .i64 m.rcp.seq, .int .i64 m.rcp.r.kind, .int .i64 m.rcp.r.epoch, .int .i64 m.rcp.r.time, .int .i64 m.rcp.r.count, .int .i64 m.rcp.r.target, .int .i64 m.rcp.r.till, .string m.rcp.r.root, .string m.rcp.r.name, .string m.rcp.was, .string m.rcp.tag]
def ac.v (m:ac) (u l:Value):Value:= .agg (m.cells u l).toArray
def aX (m:ac):Bool:=
 if m.kind=1 then true
 else if m.kind=2∨m.kind=3 then cj m.epoch
 else if m.kind=4 then cj m.epoch&&(decide (0≤m.seq)&&decide (m.seq≤4096))&&decide (m.last.size=32)
 else if m.kind=5 then decide (0≤m.seq)&&decide (m.seq≤4095)
 else if m.kind=6 then(decide (0≤m.seq)&&decide (m.seq≤4095))&&am m.sld.r&&decide (m.sld.tag.size=32)
 else if m.kind=7 then fE m.askE m.askL
 else if m.kind=8 then dz m.told
 else if m.kind=10 then cD m.rcp
 else false
def aP (m:ac):ac:=
 {m with
  epoch:=if m.kind=2∨m.kind=3∨m.kind=4 then 0 else m.epoch
  seq:=if m.kind=4∨m.kind=5∨m.kind=6 then 0 else m.seq
  last:=if m.kind=4 then⟨#[]⟩else m.last
  sld:=if m.kind=6 then aH.zero else m.sld
  askE:=if m.kind=7 then 0 else m.askE
  askL:=if m.kind=7 then 0 else m.askL
  told:=if m.kind=8 then ax.zero else m.told
  rcp:=if m.kind=10 then aK.zero else m.rcp}
def az (k:Int):Bool:=decide (k=3)||decide (k=4)
def mq (m:ac):Bool:=decide (m.told=ax.zero)&&decide (m.epoch=0)&&decide (m.seq=0)&&(decide (m.kind≠10)||decide (m.nonce=⟨#[]⟩))&&(az m.kind||decide (m.tag=⟨#[]⟩))&&decide (m.last=⟨#[]⟩)&&(decide (m.askE=0)&&decide (m.askL=0))&&decide (m.sld=aH.zero)&&decide (m.rcp=aK.zero)
def dP (m:ac):Bool:=aX m&&((decide (m.kind=10)||decide (m.nonce.size=32))&&(!az m.kind||decide (m.tag.size=32)))&&mq (aP m)
theorem jG {x:aK} (h:cD x=true):(iJ x).length≤200:=by
 have hr:=kS h
 simp only[cD,Bool.and_eq_true,decide_eq_true_eq]at h
 unfold iJ
 rw[List.length_append,List.length_append,List.length_append,beBytes_length]
 have h1:=ct hr.1
 have e1:x.was.data.toList.length=x.was.size:=rfl
 have e2:x.tag.data.toList.length=x.tag.size:=rfl
 omega
def mr (b:Bool):List UInt8:=beBytes 1 (if b then 1 else 0)
def nY (x:aM):List UInt8:=if x=aM.zero then mr false else mr true++beBytes 2 x.lba.toNat++x.hash.data.toList
def mt (l:List ByteArray):List UInt8:=beBytes 1 l.length++(l.map (·.data.toList)).flatten
def mw (e l:Int):List UInt8:=beBytes 4 e.toNat++beBytes 2 l.toNat
def nZ (t:ax):List UInt8:=
 mw t.askE t.askL++mr t.gone++
 (if t.gone then[]else beBytes 4 t.slot.toNat++cZ t.cipher.data.toList++mr t.found++beBytes 4 t.at_.toNat++nY t.here++nY t.ahead++mt t.up++mt t.left)
def ob (m:ac):List UInt8:=
 if m.kind=2∨m.kind=3 then beBytes 4 m.epoch.toNat
 else if m.kind=4 then beBytes 4 m.epoch.toNat++beBytes 4 m.seq.toNat++m.last.data.toList
 else if m.kind=5 then beBytes 4 m.seq.toNat
 else if m.kind=6 then beBytes 4 m.seq.toNat++dR m.sld.r++m.sld.tag.data.toList
 else if m.kind=7 then mw m.askE m.askL
 else if m.kind=8 then nZ m.told
 else if m.kind=10 then iJ m.rcp
 else[]
def j9 (m:ac):List UInt8:=beBytes 1 m.kind.toNat++m.nonce.data.toList++ob m
def kx (m:ac):List UInt8:=j9 m++m.tag.data.toList
end Go.Proofs.YtgimkmclgjfddaaGreat
