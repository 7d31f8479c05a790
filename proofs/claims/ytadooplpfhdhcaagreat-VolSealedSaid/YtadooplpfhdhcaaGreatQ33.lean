/- A volume, in plain words (chapters 24 and 26): the model's state, and how a volume stands to it, kept by every call. No program in sight. A volume, in plain words (chapters 24 and 26): a record that is sealed, a purge, a closing keep how a volume stands to the model's state. -/
import Derived.Test.YtadooplpfhdhcaaGreatQ31
import Derived.Test.YtadooplpfhdhcaaGreatQ32
set_option linter.unusedSimpArgs false
set_option linter.unusedVariables false
set_option maxRecDepth 100000
set_option maxHeartbeats 4000000
namespace Go.Proofs.YtadooplpfhdhcaaGreat
open Go Go.RowKit Go.Maps Go.WideMaps
open Go.Proofs.Tryz
structure AM where
 geo:aI
 used:Int
 clock:Int
 epoch:Int
 now:Int
 b:ax
 nrec:Int
 L:List AV
 root:ByteArray
def AM.new (g:aI) (root:ByteArray):AM:=⟨g,0,0,g.first,0,ax.none,0,[],root⟩
structure aW (v:ak) (m:AM) (log:List LE) (g:Int):Prop where
 ok:bC v
 key:v.key.size=32
 data:v.data.size=16
 geo:v.last.geo=m.geo
 first:v.first=m.geo.first
 used:v.used=m.used
 epoch:v.epoch=m.epoch
 clock:v.clock=m.clock
 now:v.now=m.now
 e0:m.geo.first≤m.epoch
 e1:m.epoch≤4294967295
 le:v.last.epoch=v.epoch
 nrec:(v.sealed.length:Int)=m.nrec
 tame:jE v.sealed
 last:(cC v.sealed).size=32
 c0:v.last.clock≤m.clock
 t0:0≤m.now
 t1:m.now≤m.clock
 t2:m.clock≤1099511627776
 gen:v.last.gen≤g
 maps:bK v.U v.L v.G m.b
 n:v.n≤log.length
 nr:v.sealed.length≤log.length
 lenG:(log.length:Int)=m.used
 ent:∀k e,(log.map LE.ent)[k]?=some e→fa v k e
 is:cY log v.data m.b v.vers
 L:m.L=log.filterMap LE.ver
 vl:v.vers.length=m.L.length
 gone:∀e,m.b.gone e=true→e<m.epoch
 chain:jL m.root m.geo.first m.epoch m.now v.key.data.toList v.sealed
 roots:cL log v.vers m.b m.epoch v.sealed
theorem sE (l:List ay) (x:ay):cC (l++[x])=x.tag:=by unfold cC;rw[List.getLast?_append];rfl
theorem aW.used_le {v:ak} {m:AM} {log:List LE} {g:Int} (h:aW v m log g):log.length≤1020:=by
 have a:=h.lenG;have b:=h.used;have c:=h.ok.u1;have d:=h.ok.sup.geo.b1;omega
theorem aW.f0 {v:ak} {m:AM} {log:List LE} {g:Int} (h:aW v m log g):0≤m.geo.first:=by rw[←h.geo];exact h.ok.sup.geo.f0
theorem aW.may {v:ak} {m:AM} {log:List LE} {g:Int} (h:aW v m log g) (a:g<1152921504606846976):jH v m.b where
 ok:=h.ok
 key:=h.key
 e0:=by rw[h.epoch];have:=h.e0;have:=h.f0;omega
 e1:=by rw[h.epoch];exact h.e1
 sealed:=by have:=h.nr;have:=h.used_le;omega
 tame:=h.tame
 last:=h.last
 c0:=by rw[h.clock];exact h.c0
 gen:=by have:=h.gen;omega
 t1:=by rw[h.clock];exact h.t2
 maps:=h.maps
 n:=by have:=h.n;have:=h.used_le;omega
theorem aW.close {v:ak} {m:AM} {log:List LE} {g:Int} (h:aW v m log g) (a:g<1152921504606846976) (b:m.epoch<4294967295) (hu:m.used<m.geo.blocks-4):oH v where
 ok:=h.ok
 key:=h.key
 e0:=(h.may a).e0
 e1:=by rw[h.epoch];exact b
 room:=by rw[h.used,h.geo];exact hu
 sealed:=(h.may a).sealed
 tame:=h.tame
 last:=h.last
 c0:=(h.may a).c0
 gen:=(h.may a).gen
 ep:=h.le
 now:=by rw[h.now,h.clock];exact h.t1
 t0:=by rw[h.clock];have:=h.t0;have:=h.t1;omega
 t1:=(h.may a).t1
theorem aW.tick {v:ak} {m:AM} {log:List LE} {g:Int} (h:aW v m log g) {t:Int} (a:m.clock≤t) (b:t≤1099511627776):aW {v with clock:=t} {m with clock:=t} log g:=
 {h with
  ok:=⟨h.ok.sup,h.ok.u0,h.ok.u1,h.ok.calm⟩
  clock:=rfl
  c0:=Int.le_trans h.c0 a
  t1:=Int.le_trans h.t1 a
  t2:=b
  ent:=fun k e c=>(h.ent k e c).to rfl rfl (Int.le_refl _) rfl}
theorem aW.sync {v:ak} {m:AM} {log:List LE} {g:Int} (h:aW v m log g) (c:g<1152921504606846976) (q:ByteArray):aW (Ah v v.clock q) m log (g+1):=
 have a:=h.may c;have d:=h.ok.sup.geo.b0;have hc:=AA h.ok.calm (by omega) v.clock q
 {ok:=⟨h.ok.com a.c0 a.t1 a.gen,h.ok.u0,h.ok.u1,hc.mono (Nat.zero_le _)⟩
  key:=h.key,data:=h.data,geo:=h.geo,first:=h.first,used:=h.used,epoch:=h.epoch,clock:=h.clock,now:=h.now,e0:=h.e0,e1:=h.e1
  le:=h.le,nrec:=h.nrec,tame:=h.tame,last:=h.last
  c0:=by show v.clock≤m.clock;rw[h.clock];exact Int.le_refl _
  t0:=h.t0,t1:=h.t1,t2:=h.t2
  gen:=by show v.last.gen+1≤g+1;have:=h.gen;omega
  maps:=h.maps,n:=h.n,nr:=h.nr,lenG:=h.lenG
  ent:=fun k e b=>(h.ent k e b).to rfl rfl (Int.le_refl _) (by
   have:=xM h.ok.calm (by omega) v.clock q (4+(k:Int)) (by omega)
   refine Eq.trans this (if_neg ?_)
   show¬(v.last.gen+1) % 2=4+(k:Int)
   omega)
  is:=h.is,L:=h.L,vl:=h.vl,gone:=h.gone,chain:=h.chain,roots:=h.roots}
theorem aW.write {v:ak} {m:AM} {log:List LE} {g:Int} (h:aW v m log g) {lba:Int} {s c a:ByteArray} {p:Value} (H:0≤lba) (B:lba<m.geo.lbas) (hu:v.used<v.last.geo.blocks-5)
  (D:aj c (dJ s.data.toList (dY v.data.data.toList v.epoch.toNat v.used.toNat s.size))) (C:aj a (cellL ⟨v.epoch,v.used,lba,false,c⟩)) (hc:bI ⟨v.epoch,v.used,lba,false,c⟩):
  aW (qS v lba a p) {m with used:=m.used+1,L:=m.L++[⟨lba,m.epoch,s⟩]} (log++[.cell ⟨lba,m.epoch,s⟩ ⟨v.epoch,v.used,lba,false,c⟩]) g:=by
 have t:(log.length:Int)=v.used:=h.lenG.trans h.used.symm;have x:v.used.toNat=log.length:=by omega
 have i:(log++[LE.cell ⟨lba,m.epoch,s⟩ ⟨v.epoch,v.used,lba,false,c⟩]).length=log.length+1:=by simp
 have q:vZ v.data m.b log.length ⟨lba,m.epoch,s⟩ ⟨v.epoch,v.used,lba,false,c⟩:=by
  refine⟨rfl,h.epoch,t.symm, ?_,fun _=> ?_⟩
  ·show false=m.b.gone m.epoch
   cases hg:m.b.gone m.epoch with
   |false=>rfl
   |true=>have:=h.gone _ hg;omega
  ·show aj c (dJ s.data.toList (dY v.data.data.toList m.epoch.toNat log.length s.size))
   rw[←h.epoch,←x];exact D
 have z:∀(k:Nat) (y:AV) (d:aw),log[k]?=some (LE.cell y d)→y.epoch≤m.epoch:=fun k y d r=>by
  have A:fa v k (.cell d):=h.ent k _ (by rw[List.getElem?_map,r];rfl);have E:=A.e1;have F:=(h.is.fit k y d r).epoch;have G:=h.epoch;omega
 have j:=h.ok.put hu p a;have f:(qS v lba a p).vers=fV v.vers ⟨lba,m.epoch,(log.length:Int)⟩:=by show fV v.vers ⟨lba,v.epoch,v.used⟩= _;rw[h.epoch,t]
 exact{
  ok:=⟨j.sup,j.u0,j.u1,j.calm⟩
  key:=h.key,data:=h.data,geo:=h.geo,first:=h.first
  used:=by show v.used+1=m.used+1;rw[h.used]
  epoch:=h.epoch,clock:=h.clock,now:=h.now,e0:=h.e0,e1:=h.e1
  le:=h.le,nrec:=h.nrec,tame:=h.tame,last:=h.last
  c0:=h.c0,t0:=h.t0,t1:=h.t1,t2:=h.t2,gen:=h.gen,maps:=h.maps
  n:=by rw[i];exact Nat.le_succ_of_le h.n
  nr:=by rw[i];exact Nat.le_succ_of_le h.nr
  lenG:=by rw[i];show((log.length+1:Nat):Int)=m.used+1;have:=h.lenG;omega
  ent:=fun k e o=>by
   have l:(qS v lba a p).d.shown (4+(k:Int))=if 4+v.used=4+(k:Int)then a else v.d.shown (4+(k:Int)):=xK v p a (4+(k:Int))
   rw[List.map_append]at o
   by_cases w:k<log.length
   ·rw[List.getElem?_append_left (by simpa using w)]at o
    rw[if_neg (by omega)]at l
    exact(h.ent k e o).to rfl rfl (Int.le_refl _) l
   ·have u:k=log.length:=by have:=(List.getElem?_eq_some_iff.1 o).1;simp at this;omega
    subst u;rw[List.getElem?_append_right (by simp)]at o;simp at o;subst o;rw[if_pos (by omega)]at l;exact⟨hc,t.symm,by show lba<v.last.geo.lbas;rw[h.geo];exact B,by show v.first≤v.epoch;rw[h.first,h.epoch];exact h.e0,Int.le_refl _,by rw[l];exact C⟩
  is:=by rw[f];exact h.is.write q z
  L:=by show m.L++[_]= _;rw[h.L,List.filterMap_append];rfl
  vl:=by rw[f,sj,h.vl];simp
  gone:=h.gone,chain:=h.chain
  roots:=by rw[f];exact h.roots.write h.is rfl _}
def AM.put (m:AM) (r:Rec):AM:={m with used:=m.used+1,now:=m.clock,b:=m.b.app r,nrec:=m.nrec+1}
def kX (r:Rec) (t:ByteArray):ByteArray:=⟨(cI r++t.data.toList).toArray⟩
theorem Js {b:ax} {r:Rec} (h:r.kind≠5):(b.app r).gone=b.gone:=by
 unfold ax.app
 split
 ·rfl
 ·split
  ·rfl
  ·split
   ·rfl
   ·rfl
theorem Ic {b:ax} {r:Rec} (h:r.kind=5) (e:Int):(b.app r).gone e=if e=r.target then true else b.gone e:=by
 unfold ax.app;rw[if_neg (by omega),if_neg (by omega),if_neg (by omega),if_pos h]
theorem xU {b:ax} {r:Rec} (h:r.kind=1):b.app r=b:=by
 unfold ax.app;rw[if_neg (by omega),if_neg (by omega),if_neg (by omega),if_neg (by omega)]
theorem Ie {first a now:Int} {b:ax} {r:Rec} (h:eB first a now b r=0):aL r=true:=by
 cases hq:aL r with
 |true=>rfl
 |false=>
  unfold eB at h;rw[if_pos hq]at h
  cases h
theorem aW.sealedD {v:ak} {m:AM} {log:List LE} {g:Int} (h:aW v m log g) (B:g<1152921504606846976) {r:Rec} (hu:v.used<v.last.geo.blocks-5) (y:aL (aS v r)=true) (o:Value) {t l:ByteArray} (q:ByteArray) {n:Nat} {U L G:DataW Unit}
  (z:aj t (iL v.key.data.toList (cC v.sealed).data.toList (v.sealed.length:Int) (aS v r))) (C:bK U L G (m.b.app (aS v r))) (hn:n≤v.n+1) {d:ao} (hc:Calm d v.last.geo.blocks.toNat 0) {a:List LE} (hl:a.length=log.length+1) (D:a.filterMap LE.ver=log.filterMap LE.ver)
  (i:∀k e,(a.map LE.ent)[k]?=some e→fa {cX v r o t l q n U L G with d:=d} k e) (s:cY a v.data (m.b.app (aS v r)) v.vers) (p:∀e,(m.b.app (aS v r)).gone e=true→e<m.epoch) (w:r.kind≠1) (u:cL a v.vers (m.b.app (aS v r)) m.epoch v.sealed):
  aW {cX v r o t l q n U L G with d:=d} (m.put (aS v r)) a (g+1):=by
 have j:=h.may B;have A:=dH y;have f:=(h.ok.put hu o l).com j.c0 j.t1 j.gen;have c:t.size=32:=by rw[z.size,dt]
 exact{
  ok:=⟨f,by show 0≤v.used+1;have:=h.ok.u0;omega,by show v.used+1≤v.last.geo.blocks-4;omega,hc.mono (Nat.zero_le _)⟩
  key:=h.key,data:=h.data,geo:=h.geo,first:=h.first
  used:=by show v.used+1=m.used+1;rw[h.used]
  epoch:=h.epoch,clock:=h.clock,now:=h.clock,e0:=h.e0,e1:=h.e1,le:=h.le
  nrec:=by show((v.sealed++[_]).length:Int)=m.nrec+1;rw[List.length_append];have:=h.nrec;simp;omega
  tame:=qK h.tame ⟨by show(aS v r).name.size≤1048576;omega,by show(aS v r).root.size≤1048576;omega,by rw[c];omega,j.fitsE⟩
  last:=by show(cC (v.sealed++[_])).size=32;rw[sE];exact c
  c0:=by show v.clock≤m.clock;rw[h.clock];exact Int.le_refl _
  t0:=by show 0≤m.clock;have:=h.t0;have:=h.t1;omega
  t1:=Int.le_refl _,t2:=h.t2
  gen:=by show v.last.gen+1≤g+1;have:=h.gen;omega
  maps:=C
  n:=by rw[hl];have:=h.n;exact Nat.le_trans hn (by omega)
  nr:=by rw[hl];show(v.sealed++[_]).length≤_;rw[List.length_append];have:=h.nr;simp;omega
  lenG:=by rw[hl];show((log.length+1:Nat):Int)=m.used+1;have:=h.lenG;omega
  ent:=i
  is:=s
  L:=by show m.L= _;rw[D,h.L]
  vl:=h.vl,gone:=p
  chain:=by
   have x:=h.chain.snoc y h.epoch (by show m.now≤v.clock;rw[h.clock];exact h.t1) z (.inr ⟨w,rfl,rfl⟩);rw[show(aS v r).time=m.clock from h.clock]at x;exact x
  roots:=u.other w}
theorem aW.sealed {v:ak} {m:AM} {log:List LE} {g:Int} (h:aW v m log g) (s:g<1152921504606846976) {r:Rec} (p:r.kind≠5) (o:r.kind≠1) (hu:v.used<v.last.geo.blocks-5) (j:aL (aS v r)=true) (c:Value) {t d:ByteArray} (q:ByteArray) {n:Nat} {U L G:DataW Unit}
  (l:aj t (iL v.key.data.toList (cC v.sealed).data.toList (v.sealed.length:Int) (aS v r))) (w:aj d (holdL (cI (aS v r)++t.data.toList))) (u:bK U L G (m.b.app (aS v r))) (hn:n≤v.n+1):
  aW (cX v r c t d q n U L G) (m.put (aS v r)) (log++[.held (kX (aS v r) t)]) (g+1):=by
 have f:t.size=32:=by rw[l.size,dt]
 have a:(m.b.app (aS v r)).gone=m.b.gone:=Js p;refine h.sealedD s hu j c q l u hn (sx h.ok hu r c t d q n U L G) (by simp) (by rw[List.filterMap_append];simp[LE.ver]) (fun k e i=> ?_) (h.is.record a _) (by rw[a];exact h.gone) o (h.roots.record h.is a _);refine uS h.ok hu (log:=log.map LE.ent) (by rw[List.length_map];exact h.lenG.trans h.used.symm) h.ent j c q n U L G f w k e ?_;rw[List.map_append]at i;exact i
theorem aW.purged {v:ak} {m:AM} {log:List LE} {g:Int} (h:aW v m log g) (w:g<1152921504606846976) {r:Rec} (u:r.kind=5) (o:r.target<m.epoch) (hu:v.used<v.last.geo.blocks-5) (z:aL (aS v r)=true) (i:Value) {t p:ByteArray} (q:ByteArray) {n:Nat} {U L G:DataW Unit}
  (A:aj t (iL v.key.data.toList (cC v.sealed).data.toList (v.sealed.length:Int) (aS v r))) (y:bK U L G (m.b.app (aS v r))) (hn:n≤v.n+1) {d:ao} (hc:Calm d v.last.geo.blocks.toNat 0)
  (f:∀j e,(log.map LE.ent++[rQ v r t])[j]?=some e→fa {cX v r i t p q n U L G with d:=d} j (rP r.target e)):
  aW {cX v r i t p q n U L G with d:=d} (m.put (aS v r)) ((log++[LE.held (kX (aS v r) t)]).map (eM r.target)) (g+1):=by
 have a:∀e,(m.b.app (aS v r)).gone e=if e=r.target then true else m.b.gone e:=fun e=>Ic (r:=aS v r) u e
 refine h.sealedD w hu z i q A y hn hc (by simp) ?_ (fun k e c=> ?_) ((h.is.record rfl _).purge r.target a) (fun e c=> ?_) (by omega) ((h.roots.record h.is rfl _).purge (h.is.record rfl _) a)
 ·rw[List.filterMap_map]
  have:LE.ver∘eM r.target=LE.ver:=funext fun e=>G2 r.target e
  rw[this,List.filterMap_append]
  show List.filterMap LE.ver log++[]= _
  rw[List.append_nil]
 ·rw[List.map_map,List.getElem?_map,Option.map_eq_some_iff]at c
  obtain⟨x,l,rfl⟩:=c
  show fa _ k (eM r.target x).ent
  rw[G1];refine f k _ ?_;have s:((log++[LE.held (kX (aS v r) t)]).map LE.ent)[k]?=some x.ent:=by rw[List.getElem?_map,l];rfl
  rw[List.map_append]at s;exact s
 ·rw[a]at c
  split at c
  ·rename_i l;rw[l];exact o
  ·exact h.gone e c
theorem aW.closed {v:ak} {m:AM} {log:List LE} {g:Int} (h:aW v m log g) (E:g<1152921504606846976) (M:m.epoch<4294967295) (hu:m.used<m.geo.blocks-4) {a:Int} (O:0≤a) (P:a≤4096) {s t u A kb q nb:ByteArray} (N:s.size=32) (S:aj s (uX m.epoch (cellsOf log v.vers m.epoch))) (w:a=((cellsOf log v.vers m.epoch).length:Int)) (R:aj A (ig v.key.data.toList [110,101,120,116] []))
  (F:aj t (iL v.key.data.toList (cC v.sealed).data.toList (v.sealed.length:Int) (aM v a s))) (Q:aj u (holdL (cI (aM v a s)++t.data.toList))) (hn:A.size=32):
  aW (D7 v a s t u A kb q nb) {m.put (aM v a s)with epoch:=m.epoch+1} (log++[.held (kX (aM v a s) t)]) (g+1):=by
 have p:=h.close E M hu;have J:=h.may E;have i:=h.ok.sup;have K:=i.geo.b0;have o:t.size=32:=by rw[F.size,dt]
 have l:=lx p O P N;have f:m.b.app (aM v a s)=m.b:=xU rfl;have r:=oN h.ok.calm h.ok.u0 (by have:=p.room;omega) (by omega) u kb q nb;have T:(log.length:Int)=v.used:=h.lenG.trans h.used.symm
 exact{
  ok:=⟨⟨i.geo,by show 1≤v.last.gen+1;have:=i.g0;omega,by show v.last.gen+1≤1152921504606846976;have:=h.gen;omega,by show 0≤v.used+1;have:=h.ok.u0;omega,by show v.used+1≤v.last.geo.blocks-4;have:=p.room;omega,by show v.last.geo.first≤v.last.epoch+1;have:=i.e0;omega,by show v.last.epoch+1<4294967296;have:=h.le;have:=h.epoch;omega,p.t0,p.t1⟩,by show 0≤v.used+1;have:=h.ok.u0;omega,by show v.used+1≤v.last.geo.blocks-4;have:=p.room;omega,r.mono (Nat.zero_le _)⟩
  key:=hn,data:=h.data,geo:=h.geo,first:=h.first
  used:=by show v.used+1=m.used+1;rw[h.used]
  epoch:=by show v.epoch+1=m.epoch+1;rw[h.epoch]
  clock:=h.clock,now:=h.clock
  e0:=by show m.geo.first≤m.epoch+1;have:=h.e0;omega
  e1:=by show m.epoch+1≤4294967295;omega
  le:=by show v.last.epoch+1=v.epoch+1;rw[h.le]
  nrec:=by show((v.sealed++[_]).length:Int)=m.nrec+1;rw[List.length_append];have:=h.nrec;simp;omega
  tame:=qK h.tame ⟨by show(0:Nat)≤1048576;omega,by show s.size≤1048576;omega,by rw[o];omega,J.fitsE⟩
  last:=by show(cC (v.sealed++[_])).size=32;rw[sE];exact o
  c0:=by show v.clock≤m.clock;rw[h.clock];exact Int.le_refl _
  t0:=by show 0≤m.clock;have:=h.t0;have:=h.t1;omega
  t1:=Int.le_refl _,t2:=h.t2
  gen:=by show v.last.gen+1≤g+1;have:=h.gen;omega
  maps:=by show bK v.U v.L v.G (m.b.app (aM v a s));rw[f];exact h.maps
  n:=by simp;have:=h.n;show v.n≤_;omega
  nr:=by show(v.sealed++[_]).length≤_;rw[List.length_append,List.length_append];have:=h.nr;simp;omega
  lenG:=by rw[List.length_append];show((log.length+1:Nat):Int)=m.used+1;have:=h.lenG;omega
  ent:=fun k e c=>by
   have j:(D7 v a s t u A kb q nb).d.shown (4+(k:Int))=if 4+v.used=4+(k:Int)then u else v.d.shown (4+(k:Int)):=nz h.ok.calm h.ok.u0 (by have:=p.room;omega) (by omega) u kb q nb _ (by omega)
   rw[List.map_append]at c
   by_cases D:k<log.length
   ·rw[List.getElem?_append_left (by simpa using D)]at c
    rw[if_neg (by omega)]at j
    exact(h.ent k e c).to rfl rfl (by show v.epoch≤v.epoch+1;omega) j
   ·have C:k=log.length:=by have:=(List.getElem?_eq_some_iff.1 c).1;simp at this;omega
    subst C;rw[List.getElem?_append_right (by simp)]at c;simp at c;subst c;rw[if_pos (by omega)]at j;have I:=eR l;have H:(cI (aM v a s)++t.data.toList).length=(cI (aM v a s)).length+32:=by rw[List.length_append,show t.data.toList.length=32 from o]
    have y:(kX (aM v a s) t).size=(cI (aM v a s)).length+32:=by show(cI (aM v a s)++t.data.toList).toArray.size= _;simp[←H]
    exact⟨by rw[y];omega,by rw[y];omega,by rw[j];simpa[kX]using Q⟩
  is:=h.is.record (b':=m.b.app (aM v a s)) (by rw[f]) _
  L:=by show m.L= _;rw[h.L,List.filterMap_append];simp[LE.ver]
  vl:=h.vl
  gone:=fun e B=>by
   have:m.b.gone e=true:=by rw[←f];exact B
   have:=h.gone e this
   show e<m.epoch+1
   omega
  chain:=by
   have z:=h.chain.snoc l h.epoch (by show m.now≤v.clock;rw[h.clock];exact h.t1) F (.inl ⟨rfl,rfl,R⟩);rw[show(aM v a s).time=m.clock from h.clock]at z;exact z
  roots:=by
   show cL _ v.vers (m.b.app (aM v a s)) (m.epoch+1) _
   rw[f];have z:=(h.roots.record h.is rfl (LE.held (kX (aM v a s) t))).close (x:=⟨aM v a s,t⟩) h.epoch (by rw[kW h.is];exact w) (by rw[kW h.is];exact S);exact z}
def iu (m:AM) (lba:Int):Int:=if lba<0∨m.geo.lbas≤lba then 4 else 0
def gv (m:AM) (ep:Int):Int:=if ep<m.geo.first∨m.epoch<ep then 7 else if ep=m.epoch then 8 else 0
def AM.mark (m:AM) (r:Rec):Rec:={r with epoch:=m.epoch,time:=m.clock}
def AM.seal (m:AM) (r:Rec):Int×AM:=
 if eB m.geo.first m.epoch m.now m.b (m.mark r)=0 then(if cj m.geo m.used=0 then(5,m)else(0,m.put (m.mark r)))else(eB m.geo.first m.epoch m.now m.b (m.mark r),m)
def gx (q:Int) (m:AM) (s:Int×AM):Int×AM:=if q=0 then s else(q,m)
def AM.closeA (m:AM):AM:={m with used:=m.used+1,now:=m.clock,nrec:=m.nrec+1,epoch:=m.epoch+1}
def AM.writeA (m:AM) (lba:Int) (s:ByteArray):AM:={m with used:=m.used+1,L:=m.L++[⟨lba,m.epoch,s⟩]}
def dB (m:AM) (c:aP):Int×AM:=
 if c.kind=1 then gx (if iu m c.lba=0 then(if 4000<(c.data.size:Int)then 2 else if cj m.geo m.used=0 then 5 else 0)else iu m c.lba) m (0,m.writeA c.lba c.data)
 else if c.kind=4 then(0,m)
 else if c.kind=5 then(if 4294967295≤m.epoch∨¬m.used<m.geo.blocks-4 then(6,m)else(0,m.closeA))
 else if c.kind=6 then gx (if gv m c.epoch=0 then(if c.time<0∨1099511627776<c.time then 2 else 0)else gv m c.epoch) m (m.seal ⟨2,0,0,0,c.epoch,c.time,⟨#[]⟩,⟨#[]⟩⟩)
 else if c.kind=7 then gx (if bV c.name.data.toList=true then gv m c.epoch else 2) m (m.seal ⟨3,0,0,0,c.epoch,0,⟨#[]⟩,c.name⟩)
 else if c.kind=8 then gx (if bV c.name.data.toList=true then 0 else 2) m (m.seal ⟨4,0,0,0,0,0,⟨#[]⟩,c.name⟩)
 else if c.kind=9 then gx (gv m c.epoch) m (m.seal ⟨5,0,0,0,c.epoch,m.b.till c.epoch,⟨#[]⟩,⟨#[]⟩⟩)
 else if c.kind=11 then gx (fM m.clock c.time) m (0,{m with clock:=c.time})
 else(2,m)
def Goes (i:ar) (g:Int) (q:Int×AM) (k:Int) (i':ar) (v':ak):Prop:=k=q.1∧(i'.rv,i'.vb)=(i.rv,i.vb)∧∃log',aW v' q.2 log' g
theorem aW.mono {v:ak} {m:AM} {log:List LE} {g g':Int} (h:aW v m log g) (a:g≤g'):aW v m log g':={h with gen:=Int.le_trans h.gen a}
theorem aW.placeE {v:ak} {m:AM} {log:List LE} {g:Int} (h:aW v m log g) (lba:Int):fu v lba=iu m lba:=by unfold fu iu;rw[h.geo]
theorem aW.closedE {v:ak} {m:AM} {log:List LE} {g:Int} (h:aW v m log g) (ep:Int):dp v ep=gv m ep:=by unfold dp gv;rw[h.geo,h.epoch]
theorem aW.recE {v:ak} {m:AM} {log:List LE} {g:Int} (h:aW v m log g) (r:Rec):aS v r=m.mark r:=by unfold aS AM.mark;rw[h.epoch,h.clock]
theorem aW.mayE {v:ak} {m:AM} {log:List LE} {g:Int} (h:aW v m log g) (r:Rec):eB v.first v.epoch v.now m.b (aS v r)=eB m.geo.first m.epoch m.now m.b (m.mark r):=by rw[h.recE,h.first,h.epoch,h.now]
theorem aW.roomE {v:ak} {m:AM} {log:List LE} {g:Int} (h:aW v m log g):cj v.last.geo v.used=cj m.geo m.used:=by rw[h.geo,h.used]
theorem stays {w w':World} {i:ar} {v:ak} {m:AM} {log:List LE} {g:Int} (b:am w i v) (h:aW v m log g) (hb:Below w.heap.size w w') {k:Int} {q:Int×AM} (a:q=(k,m)):Step (Goes i (g+1) q) w i v (.returned (.int .i64 k)) w':=
 ⟨k,i,v,rfl,(aK.refl b).below hb,by rw[a],rfl,log,by rw[a];exact h.mono (by omega)⟩
theorem bT.step {w w':World} {i:ar} {v:ak} {m:AM} {log:List LE} {g:Int} {e:Ending} {q:Int} {P:Prop} {s:Int×AM} (h:bT q w w' e P) (c:am w i v) (b:aW v m log g) (hp:q=0→P→Step (Goes i (g+1) s) w i v e w'):Step (Goes i (g+1) (gx q m s)) w i v e w':=by
 unfold bT at h
 by_cases a:q=0
 ·rw[if_pos a]at h
  rw[show gx q m s=s from if_pos a];exact hp a h
 ·rw[if_neg a]at h
  rw[show gx q m s=(q,m)from if_neg a,h.1];exact stays c b h.2 rfl
theorem wI {v:ak} (a:bC v) (h:¬cj v.last.geo v.used=0):v.used<v.last.geo.blocks-5:=by unfold cj at h;omega
theorem cH.step {w w':World} {i:ar} {v:ak} {m:AM} {log:List LE} {g:Int} {e:Ending} {r:Rec} (h:cH w i v m.b r e w') (k:am w i v) (a:aW v m log g) (s:g<1152921504606846976) (o:r.kind≠5) (f:r.kind≠1):Step (Goes i (g+1) (m.seal r)) w i v e w':=by
 unfold cH at h;rw[a.mayE,a.roomE]at h;unfold AM.seal
 by_cases c:eB m.geo.first m.epoch m.now m.b (m.mark r)=0
 ·rw[if_pos c]at h ⊢
  by_cases d:cj m.geo m.used=0
  ·rw[if_pos d]at h ⊢
   rw[h.1];exact stays k a h.2 rfl
  ·rw[if_neg d]at h ⊢
   obtain⟨l,t,z,q,n,U,L,G,sv,y,x,A,u,hn,p,j⟩:=h;refine⟨0,_,_,p,j,rfl,rfl,log++[.held (kX (m.mark r) t)], ?_⟩
   have:=a.sealed s o f (wI a.ok (by rw[a.roomE];exact d)) (Ie (by rw[a.recE];exact c)) l q y x u hn
   rw[a.recE]at this;exact this
 ·rw[if_neg c]at h ⊢
  rw[h.1];exact stays k a h.2 rfl
theorem gR.step {w w':World} {i:ar} {v:ak} {m:AM} {log:List LE} {g:Int} {e:Ending} {ep:Int} (h:gR w i v m.b ep (log.map LE.ent) e w') (o:am w i v) (a:aW v m log g) (u:g<1152921504606846976) (k:ep<m.epoch):Step (Goes i (g+1) (m.seal ⟨5,0,0,0,ep,m.b.till ep,⟨#[]⟩,⟨#[]⟩⟩)) w i v e w':=by
 unfold gR at h;rw[a.mayE,a.roomE]at h;unfold AM.seal
 by_cases f:eB m.geo.first m.epoch m.now m.b (m.mark ⟨5,0,0,0,ep,m.b.till ep,⟨#[]⟩,⟨#[]⟩⟩)=0
 ·rw[if_pos f]at h ⊢
  by_cases j:cj m.geo m.used=0
  ·rw[if_pos j]at h ⊢
   rw[h.1];exact stays o a h.2 rfl
  ·rw[if_neg j]at h ⊢
   obtain⟨p,t,A,q,n,U,L,G,sv,d,z,B,C,x,hn,s,l,hc,c,y⟩:=h;refine⟨0,_,_,s,l,rfl,rfl,(log++[LE.held (kX (m.mark ⟨5,0,0,0,ep,m.b.till ep,⟨#[]⟩,⟨#[]⟩⟩) t)]).map (eM ep), ?_⟩
   have:=a.purged u (r:=⟨5,0,0,0,ep,m.b.till ep,⟨#[]⟩,⟨#[]⟩⟩) rfl k (wI a.ok (by rw[a.roomE];exact j)) (Ie (by rw[a.recE];exact f)) p q z x hn hc c
   rw[a.recE]at this;exact this
 ·rw[if_neg f]at h ⊢
  rw[h.1];exact stays o a h.2 rfl
theorem aW.vlen {v:ak} {m:AM} {log:List LE} {g:Int} (h:aW v m log g):v.vers.length≤1020:=by
 have a:=h.vl;rw[h.L]at a;have b:=List.length_filterMap_le LE.ver log
 have:=h.used_le
 omega
theorem aW.lenv {v:ak} {m:AM} {log:List LE} {g:Int} (h:aW v m log g):v.used=(log.length:Int):=h.used.trans h.lenG.symm
theorem MP {m:AM} {c:aP} (h:c.kind=1):dB m c=gx (if iu m c.lba=0 then(if 4000<(c.data.size:Int)then 2 else if cj m.geo m.used=0 then 5 else 0)else iu m c.lba) m (0,m.writeA c.lba c.data):=if_pos h
theorem MQ {m:AM} {c:aP} (h:c.kind=4):dB m c=(0,m):=by unfold dB;rw[if_neg (by omega),if_pos h]
theorem MR {m:AM} {c:aP} (h:c.kind=5):dB m c=(if 4294967295≤m.epoch∨¬m.used<m.geo.blocks-4 then(6,m)else(0,m.closeA)):=by unfold dB;rw[if_neg (by omega),if_neg (by omega),if_pos h]
theorem MS {m:AM} {c:aP} (h:c.kind=6):dB m c=gx (if gv m c.epoch=0 then(if c.time<0∨1099511627776<c.time then 2 else 0)else gv m c.epoch) m (m.seal ⟨2,0,0,0,c.epoch,c.time,⟨#[]⟩,⟨#[]⟩⟩):=by unfold dB;rw[if_neg (by omega),if_neg (by omega),if_neg (by omega),if_pos h]
theorem MU {m:AM} {c:aP} (h:c.kind=7):dB m c=gx (if bV c.name.data.toList=true then gv m c.epoch else 2) m (m.seal ⟨3,0,0,0,c.epoch,0,⟨#[]⟩,c.name⟩):=by unfold dB;rw[if_neg (by omega),if_neg (by omega),if_neg (by omega),if_neg (by omega),if_pos h]
theorem MV {m:AM} {c:aP} (h:c.kind=8):dB m c=gx (if bV c.name.data.toList=true then 0 else 2) m (m.seal ⟨4,0,0,0,0,0,⟨#[]⟩,c.name⟩):=by unfold dB;rw[if_neg (by omega),if_neg (by omega),if_neg (by omega),if_neg (by omega),if_neg (by omega),if_pos h]
theorem MW {m:AM} {c:aP} (h:c.kind=9):dB m c=gx (gv m c.epoch) m (m.seal ⟨5,0,0,0,c.epoch,m.b.till c.epoch,⟨#[]⟩,⟨#[]⟩⟩):=by unfold dB;rw[if_neg (by omega),if_neg (by omega),if_neg (by omega),if_neg (by omega),if_neg (by omega),if_neg (by omega),if_pos h]
theorem LV {m:AM} {c:aP} (h:c.kind=11):dB m c=gx (fM m.clock c.time) m (0,{m with clock:=c.time}):=by unfold dB;rw[if_neg (by omega),if_neg (by omega),if_neg (by omega),if_neg (by omega),if_neg (by omega),if_neg (by omega),if_neg (by omega),if_pos h]
theorem K9 {now t:Int} (h:fM now t=0):(0≤t∧t≤1099511627776)∧now≤t:=by
 unfold fM at h
 split at h
 ·cases h
 ·split at h
  ·cases h
  ·omega
section
variable {w:World} {i:ar} {v:ak} {m:AM} {log:List LE} {g:Int} {c:aP}
theorem MX (h:am w i v) (a:aW v m log g) (d:c.kind=11):Calls prog 9 #[.pointer (some ⟨i.vb,0,none⟩),c.v] w fun e w'=>StepA (Goes i (g+1) (dB m c)) w i v e w':=by
 rw[LV d];refine Fb _ i v c w h d (fun o j=>(EQ i v c.time o j).mono fun e w' b=> ?_);rw[a.clock]at b;refine b.step j a (fun l hp=> ?_);obtain⟨k,n⟩:=hp;have f:=K9 l;exact⟨0,_,_,k,n,rfl,rfl,log,(a.tick f.2 f.1.2).mono (by omega)⟩
theorem Nb (h:am w i v) (a:aW v m log g) (d:g<1152921504606846976) (f:c.kind=4):Calls prog 9 #[.pointer (some ⟨i.vb,0,none⟩),c.v] w fun e w'=>StepA (Goes i (g+1) (dB m c)) w i v e w':=by
 rw[MQ f];have b:=a.may d;refine G9 _ i v c w h f (fun o n=>(EP i v o n a.ok b.c0 b.t1 b.gen).mono fun e w' k=> ?_);obtain⟨j,q,_,l⟩:=k;exact⟨0,_,_,j,l,rfl,rfl,log,a.sync d q⟩
theorem Nc (h:am w i v) (f:i.rv= .pointer none) (a:aW v m log g) (l:g<1152921504606846976) (j:fL) (n:c.kind=6):Calls prog 9 #[.pointer (some ⟨i.vb,0,none⟩),c.v] w fun e w'=>StepA (Goes i (g+1) (dB m c)) w i v e w':=by
 rw[MS n];refine Hj _ i v c w h n (fun o k=>(Aj i v m.b c.epoch c.time o k f (a.may l) j).mono fun e w' d=> ?_);unfold nV at d;rw[a.closedE]at d;exact d.step k a (fun _ hp=>hp.step k a l (show¬(2:Int)=5 by decide) (show¬(2:Int)=1 by decide))
theorem Nh (h:am w i v) (f:i.rv= .pointer none) (a:aW v m log g) (l:g<1152921504606846976) (j:fL) (hn:Sz c.name.size) (n:c.kind=7):Calls prog 9 #[.pointer (some ⟨i.vb,0,none⟩),c.v] w fun e w'=>StepA (Goes i (g+1) (dB m c)) w i v e w':=by
 rw[MU n];refine Ho _ i v c w h n (fun o k=>(EO i v m.b c.epoch c.name o k f (a.may l) j hn).mono fun e w' d=> ?_);unfold rM at d;rw[a.closedE]at d;exact d.step k a (fun _ hp=>hp.step k a l (show¬(3:Int)=5 by decide) (show¬(3:Int)=1 by decide))
theorem Ni (h:am w i v) (d:i.rv= .pointer none) (a:aW v m log g) (k:g<1152921504606846976) (f:fL) (hn:Sz c.name.size) (n:c.kind=8):Calls prog 9 #[.pointer (some ⟨i.vb,0,none⟩),c.v] w fun e w'=>StepA (Goes i (g+1) (dB m c)) w i v e w':=by
 rw[MV n];refine Hu _ i v c w h n (fun o j=>(yM i v m.b c.name o j d (a.may k) f hn).mono fun e w' l=> ?_);unfold vT at l;exact l.step j a (fun _ hp=>hp.step j a k (show¬(4:Int)=5 by decide) (show¬(4:Int)=1 by decide))
theorem Nj (h:am w i v) (f:i.rv= .pointer none) (a:aW v m log g) (l:g<1152921504606846976) (j:fL) (o:c.kind=9):Calls prog 9 #[.pointer (some ⟨i.vb,0,none⟩),c.v] w fun e w'=>StepA (Goes i (g+1) (dB m c)) w i v e w':=by
 rw[MW o];refine Hw _ i v c w h o (fun p k=>(Ds i v m.b c.epoch (log.map LE.ent) p k f (a.may l) j (by rw[List.length_map];exact a.lenv.symm) a.ent).mono fun e w' n=> ?_);rw[a.closedE]at n;refine n.step k a (fun d hp=>hp.step k a l ?_);unfold gv at d
 split at d
 ·cases d
 ·split at d
  ·cases d
  ·omega
theorem Nk (h:am w i v) (b:aW v m log g) (q:c.kind=1):Calls prog 9 #[.pointer (some ⟨i.vb,0,none⟩),c.v] w fun e w'=>StepA (Goes i (g+1) (dB m c)) w i v e w':=by
 rw[MP q];have n:eH v c.lba c.data=(if iu m c.lba=0 then(if 4000<(c.data.size:Int)then 2 else if cj m.geo m.used=0 then 5 else 0)else iu m c.lba):=by unfold eH;rw[b.placeE,b.roomE]
 rw[←n];refine G8 _ i v c w h q (fun s o=> ?_)
 by_cases j:eH v c.lba c.data=0
 ·have a:=j
  unfold eH at a
  by_cases hp:fu v c.lba=0
  ·rw[if_pos hp]at a
   by_cases p:4000<(c.data.size:Int)
   ·rw[if_pos p]at a;cases a
   ·rw[if_neg p]at a
    by_cases r:cj v.last.geo v.used=0
    ·rw[if_pos r]at a;cases a
    ·have hu:=wI b.ok r
     have hl:0≤c.lba∧c.lba<v.last.geo.lbas:=by
      unfold fu at hp
      split at hp
      ·cases hp
      ·omega
     have d:=b.is.asks c.lba v.epoch;rw[←b.lenv]at d
     refine(yN i v c.lba c.data s o b.ok hu hl.1 hl.2 (by omega) b.data (by rw[b.epoch];have:=b.e0;have:=b.f0;omega) (by rw[b.epoch];exact b.e1) (by have:=b.vlen;omega) d.1 d.2).mono fun e w' f=> ?_
     obtain⟨u,z,xv,t,k,y,x,hc,l⟩:=f;rw[show gx (eH v c.lba c.data) m (0,m.writeA c.lba c.data)=(0,m.writeA c.lba c.data)from if_pos j];exact⟨0,_,_,u,l,rfl,rfl,_,(b.write hl.1 (by rw[←b.geo];exact hl.2) hu y x hc).mono (by omega)⟩
  ·rw[if_neg hp]at a;exact absurd a hp
 ·refine(yO i v c.lba c.data s o b.ok j).mono fun e w' f=> ?_
  rw[show gx (eH v c.lba c.data) m (0,m.writeA c.lba c.data)=(eH v c.lba c.data,m)from if_neg j,f.1];exact stays o b f.2 rfl
end
theorem aW.epochC {v:ak} {m:AM} {log:List LE} {g:Int} (h:aW v m log g) (ep:Int):uY v ep (cellsOf log v.vers ep):=by
 have e:=pL h.is.sort ep v.vers.length (Nat.le_refl _);rw[List.take_of_length_le (Nat.le_refl _)]at e
 have i:∀x∈bN v.vers ep,∃(k:Nat) (y:AV) (d:aw),x=⟨y.lba,y.epoch,(k:Int)⟩∧log[k]?=some (.cell y d)∧cellAt log x=d:=fun x n=>by
  obtain⟨_,t,_,D⟩:=e.2 x n;obtain⟨k,y,d,f,l⟩:=h.is.vin t x D;refine⟨k,y,d,f,l, ?_⟩;unfold cellAt;rw[f];simp only[Int.toNat_natCast,l]
 refine⟨by unfold cellsOf;simp,fun j x c n hc=> ?_,fun j k a b o hb p=> ?_⟩
 ·obtain⟨k,y,d,f,l,hd⟩:=i x (List.mem_iff_getElem?.2 ⟨j,n⟩)
  unfold cellsOf at hc;rw[List.getElem?_map,n]at hc;simp only[Option.map_some,Option.some.injEq]at hc;rw[←hc,hd];refine⟨k,by rw[f],by rw[h.lenv];have:=(List.getElem?_eq_some_iff.1 l).1;omega,h.ent k (.cell d) (by rw[List.getElem?_map,l];rfl)⟩
 ·unfold cellsOf at o hb
  rw[List.getElem?_map,Option.map_eq_some_iff]at o hb;obtain⟨x,n,rfl⟩:=o;obtain⟨z,s,rfl⟩:=hb;obtain⟨E,J,u,A,F,H⟩:=i x (List.mem_iff_getElem?.2 ⟨j,n⟩);obtain⟨k2,K,w,B,G,I⟩:=i z (List.mem_iff_getElem?.2 ⟨k,s⟩);obtain⟨C,q⟩:=List.getElem?_eq_some_iff.1 n;obtain⟨l,r⟩:=List.getElem?_eq_some_iff.1 s;have hp:=List.pairwise_iff_getElem.1 e.1 j k C l p;rw[q,r,A,B]at hp;rw[H,I,(h.is.fit E J u F).lba,(h.is.fit k2 K w G).lba];simp only at hp;omega
theorem Nl {w:World} {i:ar} {v:ak} {m:AM} {log:List LE} {g:Int} {c:aP} (h:am w i v) (n:i.rv= .pointer none) (a:aW v m log g) (z:g<1152921504606846976) (A:c.kind=5):Calls prog 9 #[.pointer (some ⟨i.vb,0,none⟩),c.v] w fun e w'=>StepA (Goes i (g+1) (dB m c)) w i v e w':=by
 rw[MR A];refine Hi _ i v c w h A (fun F p=> ?_)
 by_cases d:4294967295≤m.epoch∨¬m.used<m.geo.blocks-4
 ·rw[if_pos d]
  refine(yX i v F p a.ok (by rw[a.epoch,a.used,a.geo];exact d)).mono fun e w' l=> ?_
  exact⟨bR.zero,6,i,v,l.1,(aK.refl p).below l.2,rfl,rfl,log,a.mono (by omega)⟩
 ·rw[if_neg d]
  have u:m.epoch<4294967295:=by omega
  have x:m.used<m.geo.blocks-4:=by omega
  have k:=a.close z u x;have f:=Jp i v (cellsOf log v.vers v.epoch) a.ok k.e0 (by have:=k.e1;omega) (by have:=a.vlen;omega) (a.epochC v.epoch)
  refine(nh i v _ _ F p n k f).mono fun e w' l=> ?_
  obtain⟨s,t,J,K,kb,q,nb,sv,D,E,r,C,I,L,H,y,o⟩:=l;have j:s.size=32:=by rw[D.size,f.len]
  rw[Fa k f.n0 f.n1 j (by rw[E.size,dt])]at y;refine⟨_,0,_,_,y,o,rfl,rfl,log++[.held (kX (aM v ((cellsOf log v.vers v.epoch).length:Int) s) t)], ?_⟩;have B:=a.closed z u x f.n0 f.n1 (nb:=nb) (q:=q) (kb:=kb) j (by rw[←a.epoch];exact D) (by rw[←a.epoch]) C E r (by rw[C.size,fA]);have hb:m.b.app (aM v ((cellsOf log v.vers v.epoch).length:Int) s)=m.b:=xU rfl
  have G:{m.put (aM v ((cellsOf log v.vers v.epoch).length:Int) s)with epoch:=m.epoch+1}=m.closeA:=by
   unfold AM.put AM.closeA;rw[hb]
  rw[G]at B;exact B
def readA (m:AM) (lba ep:Int):Int×ByteArray:=
 if iu m lba=0 then
  (if ep<m.geo.first∨m.epoch<ep then(7,⟨#[]⟩)else
   match jK m.L lba m.geo.first ep with
   |none=>(7,⟨#[]⟩)
   |some x=>if m.b.gone x.epoch=true then(13,⟨#[]⟩)else(0,x.data))
 else(iu m lba,⟨#[]⟩)
def zt (m:AM):List Value:=[.int .i64 m.epoch, .int .i64 m.clock, .int .i64 (cj m.geo m.used), .int .i64 m.nrec, .int .i64 ((wu m.L m.geo.lbas m.geo.first:Nat):Int), .int .i64 (m.b.holds.length:Int)]
theorem aW.cellLe {v:ak} {m:AM} {log:List LE} {g:Int} (h:aW v m log g):∀(k:Nat) x c,log[k]?=some (LE.cell x c)→iq v k c∧m.geo.first≤x.epoch∧x.epoch≤4294967295∧0≤x.lba∧x.lba<m.geo.lbas:=fun k x c j=>by
 have a:iq v k c:=h.ent k (.cell c) (by rw[List.getElem?_map,j];rfl);have b:=h.is.fit k x c j;have d:=a.e0;have e:=a.ok.e1;have f:=a.ok.l0;have i:=a.lba;rw[h.first,b.epoch]at d;rw[b.epoch]at e;rw[b.lba]at f;rw[b.lba,h.geo]at i;exact⟨a,d,e,f,i⟩
theorem xW {w:World} {i:ar} {v:ak} {m:AM} {log:List LE} {g:Int} (h:am w i v) (d:aW v m log g) (lba ep:Int):
  Calls prog 26 #[.pointer (some ⟨i.vb,0,none⟩), .int .i64 lba, .int .i64 ep] w fun e w'=>gu (fun r k=>k=(readA m lba ep).1∧r=(readA m lba ep).2) w e w':=by
 have l:=tB d.is lba ep;obtain⟨n,hn⟩:=qU lba ep v.vers l;have q:=Dt d.is (lba:=lba) (fr:=m.geo.first) (fun k x c s=>(d.cellLe k x c s).2.1) hn;rw[←d.L]at q
 have R:0≤(fN (bQ v.vers lba n)).epoch∧(fN (bQ v.vers lba n)).epoch≤4294967295:=by
  rcases q with⟨f,_⟩|⟨k,x,c,s,f,_⟩
  ·rw[f];exact⟨by decide,by decide⟩
  ·rw[f]
   have:=d.cellLe k x c s
   have P:=d.f0
   show 0≤x.epoch∧x.epoch≤4294967295
   omega
 have J:fD v m.b lba ep (bQ v.vers lba n)=(readA m lba ep).1:=by
  unfold fD readA;rw[d.placeE,d.geo,d.epoch]
  by_cases hp:iu m lba=0
  ·rw[if_pos hp,if_pos hp]
   by_cases A:ep<m.geo.first∨m.epoch<ep
   ·rw[if_pos (A.elim .inl (fun z=> .inr (.inl z))),if_pos A]
   ·rw[if_neg A]
    rcases q with⟨f,o⟩|⟨k,x,c,s,f,o,_⟩
    ·rw[f,o,if_pos (.inr (.inr rfl))]
    ·rw[f,o,if_neg (fun z=>z.elim (fun M=>A (.inl M)) (fun M=>M.elim (fun N=>A (.inr N)) (fun N=>by cases N)))]
     show(if m.b.gone x.epoch=true then 13 else 0)= _
     by_cases y:m.b.gone x.epoch=true
     ·rw[if_pos y];simp only[y,if_true]
     ·rw[if_neg y];simp only[y];rfl
  ·rw[if_neg hp,if_neg hp]
 have C:∀{j:Int},fD v m.b lba ep (bQ v.vers lba n)=j→j≠0→(readA m lba ep).2=⟨#[]⟩:=fun{j} p hj=>by
  rw[J]at p;unfold readA at p ⊢
  split
  ·split
   ·rfl
   ·split
    ·rfl
    ·split
     ·rfl
     ·rename_i f o xo x S T
      rw[if_pos f,if_neg o,S]at p;simp only[T]at p;exact absurd p.symm hj
  ·rfl
 refine(Ao i v m.b lba ep n (readA m lba ep).2.data.toList w h d.maps (by have:=d.vlen;omega) l hn R (fun a Y X=> ?_)).mono fun e w' z=> ?_
 ·rw[J]at a
  rcases q with⟨f,o⟩|⟨k,x,c,s,f,o,S,T⟩
  ·exfalso
   unfold readA at a;rw[o]at a
   split at a
   ·split at a<;>cases a
   ·rename_i hp;exact hp a
  ·have E:m.b.gone x.epoch=false∧(readA m lba ep).2=x.data:=by
    unfold readA at a ⊢;rw[o]at a ⊢
    split at a
    ·rename_i hp
     split at a
     ·cases a
     ·rename_i A
      simp only at a ⊢
      split at a
      ·cases a
      ·rename_i y
       rw[if_pos hp,if_neg A,if_neg y];exact⟨by simpa using y,rfl⟩
    ·rename_i hp;exact absurd a hp
   obtain⟨B,Z,a2,a3,a4⟩:=d.cellLe k x c s;have I:=d.is.fit k x c s;have u:c.gone=false:=by rw[I.gone];exact E.1
   have G:=I.txt u;have P:=d.f0;obtain⟨H,D⟩:∃H:Nat,x.epoch=(H:Int):=⟨x.epoch.toNat,by omega⟩
   have O:c=⟨(H:Int),(k:Int),c.lba,false,c.cipher⟩:=by
    obtain⟨U,cs,cl,cg,cc⟩:=c;simp only at u;have V:U=x.epoch:=I.epoch;have W:cs=(k:Int):=I.slot;subst u V W;rw[D]
   have F:=B.ok;have t:=B.txt;rw[O]at F t;have Q:c.cipher.size=x.data.size:=by rw[G.size,fh];rfl
   rw[f]
   refine(uu i v (fN (some ⟨lba,x.epoch,(k:Int)⟩)) H k c.lba c.cipher Y X d.ok d.data rfl (by rw[d.lenv];have:=(List.getElem?_eq_some_iff.1 s).1;omega) (by omega) F t).mono fun e w' z=> ?_
   obtain⟨⟨r,p,K⟩,hb⟩:=z;refine⟨⟨r,p, ?_⟩,hb⟩;rw[Q,show c.cipher.data.toList= _ from G,D,Int.toNat_natCast,xm]at K;rw[E.2];exact K
 ·obtain⟨hp,hb⟩:=z
  refine⟨?_,hb⟩;unfold fx at hp
  by_cases a:fD v m.b lba ep (bQ v.vers lba n)=0
  ·rw[if_pos a]at hp
   obtain⟨r,p,K⟩:=hp;refine⟨r,0,p,by rw[←J,a], ?_⟩;exact aj.eq K (show aj (readA m lba ep).2 _ from rfl)
  ·rw[if_neg a]at hp
   exact⟨⟨#[]⟩,_,hp,J,(C rfl a).symm⟩
theorem La {v:ak} {m:AM} {log:List LE} {g:Int} (a:aW v m log g):ju v m.b=zt m:=by
 unfold ju zt;rw[a.epoch,a.clock,a.roomE,a.nrec,Du a.is (fun k x c d=>(a.cellLe k x c d).2),←a.L]
def lP (m:AM) (c:aP):List Value×AM:=
 if c.kind=2 then(iE (readA m c.lba m.epoch).1 (readA m c.lba m.epoch).2,m)
 else if c.kind=3 then(iE (readA m c.lba c.epoch).1 (readA m c.lba c.epoch).2,m)
 else if c.kind=10 then([.int .i64 0, .string ⟨#[]⟩]++zt m,m)
 else(cG (dB m c).1,(dB m c).2)
def tG (w:World) (i:ar) (v:ak) (m:AM) (c:aP) (g:Int) (e:Ending) (w':World):Prop:=
 e= .returned (.agg (lP m c).1.toArray)∧∃i' v' log',aK w w' i v i' v'∧(i'.rv,i'.vb)=(i.rv,i.vb)∧aW v' (lP m c).2 log' (g+1)
theorem StepA.go {w w':World} {i:ar} {v:ak} {m:AM} {c:aP} {g:Int} {e:Ending} (h:StepA (Goes i (g+1) (dB m c)) w i v e w') (b:¬c.kind=2∧¬c.kind=3∧¬c.kind=10):tG w i v m c g e w':=by
 obtain⟨k,o,v',j,n,l,d,a,f⟩:=h;have hd:lP m c=(cG (dB m c).1,(dB m c).2):=by unfold lP;rw[if_neg b.1,if_neg b.2.1,if_neg b.2.2]
 unfold tG;rw[hd];exact⟨by rw[j,l],o,v',a,n,d,f⟩
theorem LW {w:World} {i:ar} {v:ak} {m:AM} {log:List LE} {g:Int} {c:aP} (h:am w i v) (f:i.rv= .pointer none) (d:aW v m log g) (q:g<1152921504606846976) (j:fL) (hn:Sz c.name.size):
  Calls prog 9 #[.pointer (some ⟨i.vb,0,none⟩),c.v] w fun e w'=>tG w i v m c g e w':=by
 by_cases z:c.kind=1
 ·exact(Nk h d z).mono fun e w' a=>a.go (by omega)
 by_cases k2:c.kind=2
 ·have s:lP m c=(iE (readA m c.lba m.epoch).1 (readA m c.lba m.epoch).2,m):=if_pos k2
  refine(Hz _ i v c w h k2 (fun G y=>Dy _ i v c.lba G y (fun H hy=>by rw[d.epoch];exact xW hy d c.lba m.epoch))).mono fun e w' a=> ?_
  obtain⟨⟨r,k,o,u,x⟩,hb⟩:=a;unfold tG;rw[s];exact⟨by rw[o,u,x],i,v,log,(aK.refl h).below hb,rfl,d.mono (by omega)⟩
 by_cases t:c.kind=3
 ·have s:lP m c=(iE (readA m c.lba c.epoch).1 (readA m c.lba c.epoch).2,m):=by unfold lP;rw[if_neg k2,if_pos t]
  refine(H9 _ i v c w h t (fun G y=>xW y d c.lba c.epoch)).mono fun e w' a=> ?_
  obtain⟨⟨r,k,o,u,x⟩,hb⟩:=a;unfold tG;rw[s];exact⟨by rw[o,u,x],i,v,log,(aK.refl h).below hb,rfl,d.mono (by omega)⟩
 by_cases l:c.kind=10
 ·have s:lP m c=([.int .i64 0, .string ⟨#[]⟩]++zt m,m):=by unfold lP;rw[if_neg k2,if_neg t,if_pos l]
  refine(Ff i v m.b c w h l d.ok d.maps (by have:=d.vlen;omega) (by have:=d.nr;have:=d.used_le;omega)).mono fun e w' a=> ?_
  obtain⟨o,hb⟩:=a;unfold tG;rw[s];exact⟨by rw[o];unfold ri;rw[La d],i,v,log,(aK.refl h).below hb,rfl,d.mono (by omega)⟩
 have n:¬c.kind=2∧¬c.kind=3∧¬c.kind=10:=⟨k2,t,l⟩
 by_cases A:c.kind=4
 ·exact(Nb h d q A).mono fun e w' a=>a.go n
 by_cases B:c.kind=5
 ·exact(Nl h f d q B).mono fun e w' a=>a.go n
 by_cases C:c.kind=6
 ·exact(Nc h f d q j C).mono fun e w' a=>a.go n
 by_cases D:c.kind=7
 ·exact(Nh h f d q j hn D).mono fun e w' a=>a.go n
 by_cases E:c.kind=8
 ·exact(Ni h f d q j hn E).mono fun e w' a=>a.go n
 by_cases F:c.kind=9
 ·exact(Nj h f d q j F).mono fun e w' a=>a.go n
 by_cases p:c.kind=11
 ·exact(MX h d p).mono fun e w' a=>a.go n
 ·have o:dB m c=(2,m):=by unfold dB;rw[if_neg z,if_neg A,if_neg B,if_neg C,if_neg D,if_neg E,if_neg F,if_neg p]
  refine(Fe i v c w h ⟨z,k2,t,A,B,C,D,E,F,l,p⟩).mono fun e w' a=> ?_
  refine StepA.go ⟨2,i,v,a.1,(aK.refl h).below a.2, ?_⟩ n;rw[o];exact⟨rfl,rfl,log,d.mono (by omega)⟩
theorem If (n:Nat) (v:Value) (i:Nat) (kb q:ByteArray):Calm (bP n v i kb q) n 0:=
 ⟨rfl,rfl,by show(((List.replicate n cE).set i kb).set 1 q).length=n;simp,fun j p a=>by simp[bP]at a,Nat.le_refl _⟩
theorem cY.nil (key:ByteArray) (b:ax):cY [] key b []:=
 ⟨fun k x c e=>by simp at e,fun j k x c y d h m e=>by simp at e,fun t x l=>by simp at l,fun k y c e=>by simp at e,fun i j a d f hd g=>by simp at f⟩
theorem aW.first_state {n ep:Nat} {a:Int} (c:cD ⟨(n:Int),a,(ep:Int)⟩) {key data root:ByteArray} (h:root.size=32) (i:aj key (km root.data.toList ep 0)) (g:key.size=32) (hd:data.size=16) (f:Value) (kb q:ByteArray):
  aW (cJ key data 1 0 n a ep ep (bP n f (2+ep % 2) kb q)) (AM.new ⟨(n:Int),a,(ep:Int)⟩ root) [] 1 where
 ok:=⟨⟨c,by show(1:Int)≤1;omega,by show(1:Int)≤1152921504606846976;omega,by show(0:Int)≤0;omega,by show(0:Int)≤(n:Int)-4;have:=c.b0;simp only at this;omega,by show(ep:Int)≤(ep:Int);omega,by have:=c.f1;exact this,by show(0:Int)≤0;omega,by show(0:Int)≤1099511627776;omega⟩,by show(0:Int)≤0;omega,by show(0:Int)≤(n:Int)-4;have:=c.b0;simp only at this;omega,(If n f (2+ep % 2) kb q).mono (Nat.zero_le _)⟩
 key:=g
 data:=hd
 geo:=rfl
 first:=rfl
 used:=rfl
 epoch:=rfl
 clock:=rfl
 now:=rfl
 e0:=Int.le_refl _
 e1:=by have:=c.f1;show(ep:Int)≤4294967295;simp only at this;omega
 le:=rfl
 nrec:=rfl
 tame:=fun j y hy=>by simp[cJ]at hy
 last:=by show(⟨(List.replicate 32 (0:UInt8)).toArray⟩:ByteArray).size=32;rfl
 c0:=Int.le_refl _
 t0:=Int.le_refl _
 t1:=Int.le_refl _
 t2:=by show(0:Int)≤1099511627776;omega
 gen:=Int.le_refl _
 maps:=bK.zero
 n:=Nat.le_refl _
 nr:=Nat.le_refl _
 lenG:=rfl
 ent:=fun k e d=>by simp at d
 is:=cY.nil _ _
 L:=rfl
 vl:=rfl
 gone:=fun e d=>by cases d
 chain:=⟨h,by show(0:Int)≤(ep:Int);omega,Int.le_refl _,by show key.data.toList=km root.data.toList (ep:Int).toNat ((ep:Int).toNat-(ep:Int).toNat);rw[Int.toNat_natCast,Nat.sub_self];exact i,rfl,rfl,fun k x b=>by simp[cJ]at b⟩
 roots:=⟨fun k x b=>by simp[cJ]at b,fun k x b=>by simp[cJ]at b,fun k x b=>by simp[cJ]at b⟩
end Go.Proofs.YtadooplpfhdhcaaGreat
