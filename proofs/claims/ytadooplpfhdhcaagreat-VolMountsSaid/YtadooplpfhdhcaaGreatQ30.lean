/- What a volume's blocks show behind an append, a commit, an over; cell Left; wipe (chapter 26). Purge (chapter 26), however it ends; where there is no ring. A volume, in plain words (chapters 24 and 26): the log of its blocks, its versions, and the newest one of a place. -/
import Derived.Test.YtadooplpfhdhcaaGreatQ28
import Derived.Test.YtadooplpfhdhcaaGreatQ29
set_option linter.unusedSimpArgs false
set_option linter.unusedVariables false
set_option maxRecDepth 100000
set_option maxHeartbeats 4000000
namespace Go.Proofs.YtadooplpfhdhcaaGreat
open Go Go.RowKit Go.Maps Go.WideMaps
open Go.Lib (hid)
open Go.Proofs.Tryz
def gd (c:ak):ak:=⟨c.epoch,c.slot,c.lba,true,⟨#[]⟩⟩
theorem zH {c:ak} (h:bh c):bh (gd c):=⟨h.e0,h.e1,h.s0,h.s1,h.l0,h.l1,by show(0:Nat)≤4000;omega,fun _=>rfl⟩
def qX (ep:Int):fx→fx
 | .cell c=>if c.epoch=ep then .cell (gd c)else .cell c
 | .held s=> .held s
theorem eA.to {v a:ai} {k:Nat} {e:fx} (h:eA v k e) (i:a.last.geo=v.last.geo) (g:a.first=v.first) (f:v.epoch≤a.epoch) (b:a.d.shown (4+(k:Int))=v.d.shown (4+(k:Int))):eA a k e:=by
 cases e with
 |cell c=>exact⟨h.ok,h.slot,by rw[i];exact h.lba,by rw[g];exact h.e0,Int.le_trans h.e1 f,by rw[b];exact h.txt⟩
 |held s=>exact⟨h.n0,h.n1,by rw[b];exact h.txt⟩
theorem qp (v:ai) (b:Value) (a:ByteArray) (j:Int):(jm v b a).d.shown j=if 4+v.used=j then a else v.d.shown j:=dr v.d b (4+v.used) j a
theorem zI {v:ai} {n m:Nat} (h:Calm v.d n m) (a:4≤n) (t:Int) (q:ByteArray):Calm (od v t q) n 0:=
 (h.flushed.put (i:=(dz v t).gen % 2) (by omega) (by omega) v.d.flushed.cv q).flushed
theorem qq {v:ai} {n m:Nat} (h:Calm v.d n m) (e:4≤n) (t:Int) (q:ByteArray) (j:Int) (a:0≤j):(od v t q).shown j=if(dz v t).gen % 2=j then q else v.d.shown j:=by
 have c:=h.flushed.put (i:=(dz v t).gen % 2) (by omega) (by omega) v.d.flushed.cv q;have b:=dr v.d.flushed v.d.flushed.cv ((dz v t).gen % 2) j q;unfold od;rw[dj c j a];refine b.trans ?_;rw[dj h j a]
theorem zJ {v:ai} (c:bp v) (hu:v.used<v.last.geo.blocks-5) (r:Rec) (b:Value) (t a q:ByteArray) (n:Nat) (U L G:DataW Unit) (j:Int) (e:0≤j):
  (cn v r b t a q n U L G).d.shown j=if(v.last.gen+1) % 2=j then q else if 4+v.used=j then a else v.d.shown j:=by
 have k:=(c.put hu b a).calm;have f:=c.sup.geo.b0
 refine(qq (v:=jm v b a) k (by show 4≤v.last.geo.blocks.toNat;omega) v.clock q j e).trans ?_
 rw[qp]
 rfl
theorem nH {v:ai} (c:bp v) (hu:v.used<v.last.geo.blocks-5) (r:Rec) (b:Value) (t a q:ByteArray) (n:Nat) (U L G:DataW Unit):
  Calm (cn v r b t a q n U L G).d v.last.geo.blocks.toNat 0:=
 zI (v:=jm v b a) (c.put hu b a).calm (by show 4≤v.last.geo.blocks.toNat;have:=c.sup.geo.b0;omega) v.clock q
def qY (v:ai) (r:Rec) (t:ByteArray):fx:= .held ⟨(cD (aL v r)++t.data.toList).toArray⟩
theorem uo {v:ai} (s:bp v) (hu:v.used<v.last.geo.blocks-5) {log:List fx} (hl:(log.length:Int)=v.used) (c:∀k e,log[k]?=some e→eA v k e) {r:Rec} (o:aI (aL v r)=true) (h:Value) {t f:ByteArray} (q:ByteArray) (n:Nat) (U L G:DataW Unit)
  (p:t.size=32) (hb:ah f (holdL (cD (aL v r)++t.data.toList))):∀k e,(log++[qY v r t])[k]?=some e→eA (cn v r h t f q n U L G) k e:=by
 intro k e b;have l:(v.last.gen+1) % 2=0∨(v.last.gen+1) % 2=1:=by omega
 have a:=zJ s hu r h t f q n U L G (4+(k:Int)) (by omega);rw[if_neg (by omega)]at a
 by_cases m:k<log.length
 ·rw[List.getElem?_append_left m]at b
  rw[if_neg (by omega)]at a
  exact(c k e b).to rfl rfl (Int.le_refl _) a
 ·have g:k=log.length:=by
   have:=(List.getElem?_eq_some_iff.1 b).1
   simp at this;omega
  subst g;rw[List.getElem?_append_right (Nat.le_refl _)]at b;simp at b;subst b;rw[if_pos (by omega)]at a;have j:=eO o;have i:(cD (aL v r)++t.data.toList).length=(cD (aL v r)).length+32:=by rw[List.length_append,show t.data.toList.length=32 from p]
  have d:ByteArray.size ⟨(cD (aL v r)++t.data.toList).toArray⟩=(cD (aL v r)).length+32:=by show(cD (aL v r)++t.data.toList).toArray.size= _;simp[←i]
  exact⟨by rw[d];omega,by rw[d];omega,by rw[a];simpa using hb⟩
def qZ (d:am) (k:Int) (cv:Value) (z:ByteArray):am:={d with cv:=cv,cs:=d.cs++[(4+k,z)]}
theorem xW (c:ak) (w:World):
  Calls prog 196 #[.agg c.cells.toArray] w fun e w'=>e= .returned (.agg (gd c).cells.toArray)∧Below w.heap.size w w':=by
 go_enter func196,ntmps196
 go_upto_region 1 with(first
  |((with_reducible refine ae 134 (.tmp 0) c.cells (some 1) ?hgd ?ho ?hd ?hx ?_);(case hgd|ho|hd|hx=>rfl);(intro d G j q s u))
  |((with_reducible refine ab 134 _ zeroCell (some 2) ?hgd ?ho ?hd ?_);(case hgd|ho|hd=>rfl);(intro h E t r o F))
  |fail)
 have f:=hid (q.below o (by omega));have y:=hid r;have x:=hid ((s.mono j).trans (o.mono (Nat.le_trans (Nat.le_trans j (Nat.le_of_lt u)) t)));have g:=hid (show h≠d by omega);have m:=hid (And.intro j (show w.heap.size≤h by omega));clear q s r o u t j F;have z:=f.cell (i:=3) rfl;have B:=f.free 3;have A:=f.cell (i:=4) rfl;have C:=f.free 4;go_upto_region 2 with fail;obtain⟨w5,b⟩:∃w5,(E.setCell ⟨d,3,none⟩ (.bool true)).setCell ⟨d,4,none⟩ (.string ⟨#[]⟩)=w5:=⟨_,rfl⟩;have k:=hid (show ac w5 d (gd c).cells 134 from by rw[←b];exact((f.set 3 (.bool true)).set 4 (.string ⟨#[]⟩)).ext rfl);have n:=hid (show ac w5 h cC 134 from by rw[←b];exact(y.set_other (a:=⟨d,3,none⟩) g.out _).set_other (a:=⟨d,4,none⟩) g.out _);have l:=hid (show Below w.heap.size w w5 from by rw[←b];exact(x.setCell (p:=⟨d,3,none⟩) m.out.1 _).setCell (p:=⟨d,4,none⟩) m.out.1 _);rw[b];clear b z B A C
 go_wp2_with (first
  |((with_reducible refine aj 134 (.tmp 1) d ((gd c).cells) 134 _ k.out underlying134 rfl aX ?hgd ?ho ?hx ?_);(case hgd|ho|hx=>rfl))
  |((with_reducible refine aa 134 (.tmp 2) (.tmp 5) h cC (gd c).cells 134 n.out rfl aX (bZ _) ?hgd ?ho ?hx ?hy ?_);(case hgd|ho|hx|hy=>rfl);(intro H v D))
  |fail)
 (try simp only[Exit.inBlock,Exit.then])
 refine bodyPost_ret (aY rfl _ _ v.range rfl underlying134 rfl aX) rfl ?_;exact⟨rfl,D.below l.out m.out.2⟩
theorem Gf (i:ap) (v:ai) (c:ak) (w:World) (h:al w i v) (P:bp v) (hc:bh c) (O:c.slot<v.last.tail):
  Calls prog 110 #[.pointer (some ⟨i.vb,0,none⟩), .agg c.cells.toArray] w fun e S=>e= .returned (.int .i64 0)∧∃F z,ah z (cellL (gd c))∧aJ w S i v i {v with d:=qZ v.d c.slot F z}:=by
 have I:=hid h;have D:=hid P;have p:=hid hc;have E:=hid O;clear h P hc O;go_enter func110,ntmps110
 go_wp2_with (first
  |((with_reducible refine ae 134 (.tmp 1) c.cells (some 3) ?hgd ?ho ?hd ?hx ?_);(case hgd|ho|hd|hx=>rfl);(intro L U G x M T))
  |((with_reducible refine aj 134 (.tmp 3) L (c.cells) 134 _ x underlying134 rfl aX ?hgd ?ho ?hx ?_);(case hgd|ho|hx=>rfl))
  |fail)
 have C:=hid G;have q:=hid (M.mono G);have n:=hid x;clear x M T G
 refine(xW c _).mono ?_
 rintro e V ⟨rfl,k⟩;have o:=hid (n.below k n.lt);have r:=hid (q.trans (k.mono q.size));clear k;go_wp2_with fail
 refine(mn (gd c) _ (zH p.out)).mono ?_
 rintro e H ⟨⟨z,rfl,Q⟩,l⟩;have t:=hid Q;have g:=hid (o.below l o.lt);have j:=hid (r.trans (l.mono r.size));have J:=hid (I.below j.out);clear l Q;go_upto_region 2 with fail;refine hb (fun u=>u.cell? ⟨i.vb,0,none⟩=some (.pointer (some ⟨i.jb,0,none⟩))∧u.cell? ⟨L,1,none⟩=some (.int .i64 c.slot)) (⟨J.vol.drew.cell (i:=0) rfl,g.drew.cell (i:=1) rfl⟩) fun a=> ?_
 obtain⟨wd,f⟩:∃u,u=H.drew:=⟨_,rfl⟩;have b:Below H.heap.size H wd:=by rw[f];exact(Below.refl _ _).drew
 have R:=hid (J.below b);have A:=hid (g.below b g.lt);have B:=hid (j.trans (b.mono j.size));rw[←f];rw[←f]at a;clear f b;refine hp 0 ?_;refine hp 1 ?_;refine hp 2 ?_;refine hp 3 ?_;refine hp 4 ?_;refine hp 5 ?_;refine hp 6 ?_;refine hc 7 fun K N=> ?_
 go_simp
 refine(DI i v c.slot z _ R.out D.out (by rw[t.size];exact fm _ (by show(0:Nat)≤4000;omega)) p.s0 E.out).mono ?_
 rintro e W ⟨rfl,F,m⟩;have s:=hid m;have y:=hid (m.turned.blk A.out (I.fresh C.out));clear m
 (try go_wp2_with fail)
 refine N.out _ _ (⟨s.at'.vol.cell (i:=0) rfl,y.cell (i:=1) rfl⟩) fun _=> ?_
 clear N K a;rename_i a
 (try go_frame)
 refine hp 8 ?_;refine hd ?_;clear a;go_wp2_with fail;go_ret;exact⟨rfl,F,z,t.out,aJ.ahead B.out s.out⟩
def qs (ep:Int) (k:Nat) (j:Nat) (e:fx):fx:=if j<k then qX ep e else e
structure jN (v:ai) (d:am) (log:List fx) (ep:Int) (k:Nat):Prop where
 all:∀j e,log[j]?=some e→eA {v with d:=d} j (qs ep k j e)
theorem uq {v:ai} {d:am} {log:List fx} {ep:Int} {k:Nat} {x:fx} (h:jN v d log ep k) (i:log[k]?=some x) (g:qX ep x=x):jN v d log ep (k+1):=⟨fun j e c=>by
 have a:=h.all j e c;unfold qs at a ⊢
 by_cases b:j<k
 ·rw[if_pos b]at a
  rw[if_pos (by omega)];exact a
 ·rw[if_neg b]at a
  by_cases f:j=k
  ·subst f
   obtain rfl:x=e:=by rw[i]at c;injection c
   rw[if_pos (by omega),g];exact a
  ·rw[if_neg (by omega)]
   exact a⟩
theorem ut (d:am) (k:Int) (a:Value) (z:ByteArray) (j:Int):(qZ d k a z).shown j=if 4+k=j then z else d.shown j:=dr d a (4+k) j z
theorem Ea {v:ai} {d:am} {log:List fx} {ep:Int} {k:Nat} {c:ak} (h:jN v d log ep k) (o:log[k]?=some (.cell c)) (n:c.epoch=ep) (l:Value) {z:ByteArray} (p:ah z (cellL (gd c))):jN v (qZ d (k:Int) l z) log ep (k+1):=⟨fun j e g=>by
 have a:=h.all j e g;have b:=ut d (k:Int) l z (4+(j:Int));unfold qs at a ⊢
 by_cases i:j<k
 ·rw[if_pos i]at a
  rw[if_pos (by omega)];rw[if_neg (by omega)]at b;exact a.to rfl rfl (Int.le_refl _) b
 ·rw[if_neg i]at a
  by_cases m:j=k
  ·subst m
   rw[o]at g
   injection g with g
   subst g;rw[if_pos (by omega)];rw[if_pos rfl]at b;rw[show qX ep (.cell c)= .cell (gd c)from if_pos n];have f:j9 {v with d:=d} j c:=a;exact⟨zH f.ok,f.slot,f.lba,f.e0,f.e1,by show ah ((qZ d (j:Int) l z).shown (4+(j:Int))) _;rw[b];exact p⟩
  ·rw[if_neg (by omega)]
   rw[if_neg (by omega)]at b;exact a.to rfl rfl (Int.le_refl _) b⟩
def IH (w:World) (i:ap) (v:ai) (b:av) (ep:Int) (log:List fx) (e:Ending) (w':World):Prop:=
 ∃(cv:Value) (t bl q:ByteArray) (n:Nat) (U L G:DataW Unit) (sv:Value) (d:am),ah t (jj v.key.data.toList (bO v.sealed).data.toList (v.sealed.length:Int) (aL v ⟨5,0,0,0,ep,b.till ep,⟨#[]⟩,⟨#[]⟩⟩))∧ah bl (holdL (cD (aL v ⟨5,0,0,0,ep,b.till ep,⟨#[]⟩,⟨#[]⟩⟩)++t.data.toList))∧ah q (cG (dz (jm v cv bl) v.clock))∧
  br U L G (b.app (aL v ⟨5,0,0,0,ep,b.till ep,⟨#[]⟩,⟨#[]⟩⟩))∧n≤v.n+1∧e= .returned (.int .i64 0)∧aJ w w' i v {i with sv:=sv} {cn v ⟨5,0,0,0,ep,b.till ep,⟨#[]⟩,⟨#[]⟩⟩ cv t bl q n U L G with d:=d}∧Calm d v.last.geo.blocks.toNat 0∧
  (∀j e,(log++[qY v ⟨5,0,0,0,ep,b.till ep,⟨#[]⟩,⟨#[]⟩⟩ t])[j]?=some e→eA {cn v ⟨5,0,0,0,ep,b.till ep,⟨#[]⟩,⟨#[]⟩⟩ cv t bl q n U L G with d:=d} j (qX ep e))∧∀j,0≤j→(j<4∨4+(v.used+1)≤j)→d.shown j=(cn v ⟨5,0,0,0,ep,b.till ep,⟨#[]⟩,⟨#[]⟩⟩ cv t bl q n U L G).d.shown j
def gX (w:World) (i:ap) (v:ai) (b:av) (ep:Int) (log:List fx) (e:Ending) (w':World):Prop:=
 if cQ v.first v.epoch v.now b (aL v ⟨5,0,0,0,ep,b.till ep,⟨#[]⟩,⟨#[]⟩⟩)=0 then(if bX v.last.geo v.used=0 then e= .returned (.int .i64 5)∧Below w.heap.size w w' else IH w i v b ep log e w')
 else e= .returned (.int .i64 (cQ v.first v.epoch v.now b (aL v ⟨5,0,0,0,ep,b.till ep,⟨#[]⟩,⟨#[]⟩⟩)))∧Below w.heap.size w w'
theorem Eb (e u:Int):prog.built 59 [(0, .int .i64 5),(4, .int .i64 e),(5, .int .i64 u)]=some (Rec.cells ⟨5,0,0,0,e,u,⟨#[]⟩,⟨#[]⟩⟩).toArray:=by kernel_rfl
theorem xX {v:ai} {d:am} {log:List fx} {ep:Int} {k n m:Nat} (hc:Calm d n m) (h:jN v d log ep k):jN v d.flushed log ep k:=
 ⟨fun j e a=>(h.all j e a).to rfl rfl (Int.le_refl _) (dj hc (4+(j:Int)) (by omega))⟩
def J2 (w0 wr:World) (i:ap) (v1:ai) (log:List fx) (ep:Int) (k c:Nat):Prop:=
 ∃d,aJ w0 wr i v1 i {v1 with d:=d}∧Calm d v1.last.geo.blocks.toNat k∧jN v1 d log ep k∧(∀j,0≤j→(j<4∨4+v1.used≤j)→d.shown j=v1.d.shown j)∧(c=0→d.cs=[])
theorem BU (i:ap) (v:ai) (b:av) (ep:Int) (log:List fx) (w:World) (h:al w i v) (ci:i.rv= .pointer none) (hs:jL v b) (ck:dU) (hl:(log.length:Int)=v.used) (a3:∀k e,log[k]?=some e→eA v k e):
  Calls prog 38 #[.pointer (some ⟨i.vb,0,none⟩), .int .i64 ep] w fun e w'=>bM (eH v ep) w w' e (gX w i v b ep log e w'):=by
 have bx:=hid (lr i v ep w h);have c3:=hid (fun(wx:World) (hx:al wx i v)=>lI i v b ⟨5,0,0,0,ep,b.till ep,⟨#[]⟩,⟨#[]⟩⟩ wx hx ci hs (show¬(5:Int)=1 by decide) (show 0≤1073741824 by decide) ck);have H0:=hid h;have F:=hid hs;have b3:=hid hl;have cy:=hid a3;obtain⟨q,hq⟩:∃q,eH v ep=q:=⟨_,rfl⟩;rw[hq]at bx;have HQ:=hid hq;obtain⟨tl,cl⟩:∃tl,b.till ep=tl:=⟨_,rfl⟩;have bd:=hid cl;clear h ci hs ck hl a3 hq cl;go_enter func38,ntmps38;go_wp2_with fail;refine bx.mono ?_;rintro e w1 ⟨rfl,bo⟩;have C:=hid bo;have H1:=hid (H0.below bo);clear bo
 by_cases h0:q=0
 case neg=>
  have HN:=hid h0;go_wp2_with fail;go_ret;exact bM.no HQ.out HN.out C.out
 subst h0
 have b2:=hid (show 0≤ep∧ep≤4294967295 by
  have R:=HQ.out;have h2:=F.ok.sup.geo.f0;have h3:=F.e1;unfold eH at R
  split at R
  ·cases R
  ·omega)
 have c5:w1.cell? ⟨i.vb,5,none⟩=some (.pointer (some ⟨i.bb,0,none⟩)):=H1.vol.cell (i:=5) rfl;go_wp2_with fail
 refine(FO i.bb i.c2 i.m1 i.m2 i.m3 v.n v.first v.epoch v.U v.L v.G b ep _ H1.book H1.maps F.maps b2.out.1 b2.out.2).mono ?_
 rintro e w' ⟨rfl,rfl⟩;rw[bd.out]
 go_wp2_with (first
  |((with_reducible refine au 59 ?parts26 (Rec.cells ⟨5,0,0,0,ep,tl,⟨#[]⟩,⟨#[]⟩⟩) ?hg ?ho ?hf ?_);(case hg|ho=>rfl);(case hf=>exact Eb _ _))
  |fail)
 rw[←bd.out]
 refine(c3.out _ H1.out).mono ?_
 intro e w2 J;clear c5;unfold cK at J
 split at J
 case isFalse hmay=>
  obtain⟨rfl,S⟩:=J;have HM:=hid hmay;have M:=hid (C.trans (S.mono C.size));obtain⟨my,an⟩:∃my,cQ v.first v.epoch v.now b (aL v ⟨5,0,0,0,ep,b.till ep,⟨#[]⟩,⟨#[]⟩⟩)=my:=⟨_,rfl⟩;have cW:=hid an;rw[an]at hmay;rw[an];clear S an;go_wp2_with fail;go_ret;refine bM.yes HQ.out ?_;unfold gX;rw[if_neg HM.out];exact⟨by rw[cW.out];rfl,M.out⟩
 case isTrue hmay=>
 have HM:=hid hmay
 split at J
 case isTrue hrm=>
  obtain⟨rfl,S⟩:=J;have HR:=hid hrm;have M:=hid (C.trans (S.mono C.size));clear S hmay hrm;go_wp2_with fail;go_ret;refine bM.yes HQ.out ?_;unfold gX;rw[if_pos HM.out,if_pos HR.out];exact⟨rfl,M.out⟩
 case isFalse hrm=>
 have HR:=hid hrm;obtain⟨g,t,K,q,n,U,L,G,sv,tt,tb,tq,ce,hn,rfl,f⟩:=J
 have E:=hid (show v.used<v.last.geo.blocks-5 from by
  unfold bX at hrm
  omega)
 have be:=hid tt;have a9:=hid tb;have b7:=hid tq;have b4:=hid ce;have b5:=hid hn;have H:=hid (aJ.ahead C.out f)
 have a1:=hid (show aI (aL v ⟨5,0,0,0,ep,b.till ep,⟨#[]⟩,⟨#[]⟩⟩)=true from by
  cases hq:aI (aL v ⟨5,0,0,0,ep,b.till ep,⟨#[]⟩,⟨#[]⟩⟩)with
  |true=>rfl
  |false=>
   unfold cQ at hmay;rw[if_pos hq]at hmay
   cases hmay)
 have O:=hid (uo F.ok E.out b3.out cy.out a1.out g q n U L G (by rw[be.size,di]) a9.out);have Y:=hid (nH F.ok E.out ⟨5,0,0,0,ep,b.till ep,⟨#[]⟩,⟨#[]⟩⟩ g t K q n U L G);have a7:=hid (show ∀d,Calm d v.last.geo.blocks.toNat (v.used+1).toNat→bp {cn v ⟨5,0,0,0,ep,b.till ep,⟨#[]⟩,⟨#[]⟩⟩ g t K q n U L G with d:=d} from fun d hd=>⟨(F.ok.put E.out g K).com F.c0 F.t1 F.gen,by show 0≤v.used+1;have:=F.ok.u0;omega,by show v.used+1≤v.last.geo.blocks-4;have:=E.out;omega,hd⟩);clear tt tb tq ce hn f hmay hrm;obtain⟨un,bs⟩:∃un:Nat,(un:Int)=v.used+1:=⟨(v.used+1).toNat,by have:=F.ok.u0;omega⟩;have bk:=hid bs;have c7:=hid bs;have c6:=hid (show un≤1020 by have:=E.out;have:=F.ok.sup.geo.b1;omega);have a6:=hid (show(log++[qY v ⟨5,0,0,0,ep,b.till ep,⟨#[]⟩,⟨#[]⟩⟩ t]).length=un by rw[List.length_append];have:=b3.out;simp;omega)
 have A:=hid (fun(wx:World) (d:am) (f:aJ w wx i v {i with sv:=sv} {cn v ⟨5,0,0,0,ep,b.till ep,⟨#[]⟩,⟨#[]⟩⟩ g t K q n U L G with d:=d}) (hc:Calm d v.last.geo.blocks.toNat 0) (hi:jN (cn v ⟨5,0,0,0,ep,b.till ep,⟨#[]⟩,⟨#[]⟩⟩ g t K q n U L G) d (log++[qY v ⟨5,0,0,0,ep,b.till ep,⟨#[]⟩,⟨#[]⟩⟩ t]) ep un) (aq:∀j,0≤j→(j<4∨4+(cn v ⟨5,0,0,0,ep,b.till ep,⟨#[]⟩,⟨#[]⟩⟩ g t K q n U L G).used≤j)→d.shown j=(cn v ⟨5,0,0,0,ep,b.till ep,⟨#[]⟩,⟨#[]⟩⟩ g t K q n U L G).d.shown j)=>show bM (eH v ep) w wx (.returned (.int .i64 0)) (gX w i v b ep log (.returned (.int .i64 0)) wx)from by
  refine bM.yes HQ.out ?_;unfold gX;rw[if_pos HM.out,if_neg HR.out];refine⟨g,t,K,q,n,U,L,G,sv,d,be.out,a9.out,b7.out,b4.out,b5.out,rfl,f,hc,fun j e hj=> ?_,aq⟩;have R:=hi.all j e hj;unfold qs at R;rw[if_pos (by have:=(List.getElem?_eq_some_iff.1 hj).1;have:=a6.out;omega)]at R;exact R)
 have r:=hid (show(cn v ⟨5,0,0,0,ep,b.till ep,⟨#[]⟩,⟨#[]⟩⟩ g t K q n U L G).last.geo.blocks.toNat=v.last.geo.blocks.toNat from rfl);have Q:=hid (show(cn v ⟨5,0,0,0,ep,b.till ep,⟨#[]⟩,⟨#[]⟩⟩ g t K q n U L G).used=(un:Int) by rw[bk.out];rfl);have b8:=hid (show(cn v ⟨5,0,0,0,ep,b.till ep,⟨#[]⟩,⟨#[]⟩⟩ g t K q n U L G).last.tail=(un:Int) by rw[bk.out];rfl);rw[show(v.used+1).toNat=un by omega]at a7
 generalize cn v ⟨5,0,0,0,ep,b.till ep,⟨#[]⟩,⟨#[]⟩⟩ g t K q n U L G=v1 at H O Y a7 A r Q b8
 generalize log++[qY v ⟨5,0,0,0,ep,b.till ep,⟨#[]⟩,⟨#[]⟩⟩ t]=lg at O A a6
 clear be a9 b7 b4 b5 bk bs a1 bd;have l:=hid (fun(d:am) (k:Nat) (hk:k≤un) (hc:Calm d v1.last.geo.blocks.toNat k)=>a7.out d (by rw[←r.out];exact hc.mono hk));have c0:w2.cell? ⟨i.vb,0,none⟩=some (.pointer (some ⟨i.jb,0,none⟩)):=H.at'.vol.cell (i:=0) rfl;go_wp2_with fail
 refine(oz {i with sv:=sv} v1 _ H.at' (l.out v1.d 0 (Nat.zero_le _) (by rw[r.out];exact Y.out))).mono ?_
 rintro e w' ⟨rfl,rfl⟩;rw[Q.out];clear c0;have cz:=hid (show(un:Int)<v1.last.geo.blocks.toNat-4 from by have:=E.out;have:=c7.out;rw[r.out];have:=F.ok.sup.geo.b0;omega);have eg:(un:Int)≤1020:=by have:=c6.out;omega
 go_wp2_with fail;go_loopw [7,36] (fun a x wr=>∃k:Nat,k≤un∧x= .int .i64 k∧∃c:Nat,a= .int .i64 (c:Int)∧c≤k∧Hid (J2 w2 wr {i with sv:=sv} v1 lg ep k c)) (fun _ x _=>un-(intOf x).toNat)
 case atStart=>exact⟨0,Nat.zero_le _,rfl,0,rfl,Nat.le_refl _,hid ⟨v1.d,aJ.refl H.at',by rw[r.out];exact Y.out,⟨fun j e hj=>O.out j e hj⟩,fun j _ _=>rfl,fun _=>List.eq_nil_of_length_eq_zero (Nat.le_zero.1 Y.few)⟩⟩
 case round=>
  obtain⟨k,hk,rfl,c,rfl,ee,cf⟩:=hrel;obtain⟨d,f,hc,cc,aq,cb⟩:=cf.out;have m:=hid f;have u:=hid hc;have D:=hid cc;have P:=hid aq;have a5:=hid cb;clear cf f hc cc aq cb
  by_cases dv:k<un
  ·have V:(k:Int)<(un:Int):=by omega
   obtain⟨x,hx⟩:∃x,lg[k]?=some x:=⟨_,List.getElem?_eq_getElem (by have:=a6.out;omega)⟩;have HX:=hid hx
   have bm:=hid (show eA {v1 with d:=d} k x from by
    have R:=D.all k x hx;unfold qs at R;rw[if_neg (by omega)]at R;exact R)
   clear hx;go_wp2_with fail
   cases x with
   |held s=>
    refine(nG {i with sv:=sv} {v1 with d:=d} k (.held s) _ m.at' (l.out d k (by omega) u.out) (by show(k:Int)<v1.used;rw[Q.out];exact V) bm.out).mono ?_
    rintro e w3 ⟨he,T⟩;obtain rfl:e= .returned (.tuple #[.agg cC.toArray, .int .i64 3]):=he;have Z:=hid (m.below T);clear T
    go_upto_region 12 with(first
      |((with_reducible refine ab 134 _ zeroCell (some 9) ?hgd ?ho ?hd ?_);(case hgd|ho|hd=>rfl);(intro b9 w4 X B9 e9 z9))
      |((with_reducible refine aa 134 (.tmp 9) (.tmp 43) b9 cC (ak.cells ⟨0,0,0,false,⟨#[]⟩⟩) 134 B9 rfl aX (bZ _) ?hgd ?ho ?hx ?hy ?_);(case hgd|ho|hx|hy=>rfl);(intro w5 B5 o5))
      |fail)
    have p:Below w3.heap.size w3 w5:=o5.below (e9.mono X) X;have B:=hid B5;have o:=hid (Z.below p);have H5:=hid o.at';have c0:=B.cell (i:=0) rfl;clear B9 e9 z9 X B5 o5 p;go_wp2_with fail;go_roundw
    case rel=>exact⟨k+1,by omega,by go_num,c,rfl,by omega,hid ⟨d,o.out,u.mono (Nat.le_succ k),uq D.out HX.out rfl,P.out,a5.out⟩⟩
    case measure=>simp[intOf];omega
   |cell y=>
    refine(nG {i with sv:=sv} {v1 with d:=d} k (.cell y) _ m.at' (l.out d k (by omega) u.out) (by show(k:Int)<v1.used;rw[Q.out];exact V) bm.out).mono ?_
    rintro e w3 ⟨he,T⟩;obtain rfl:e= .returned (.tuple #[.agg y.cells.toArray, .int .i64 0]):=he;have Z:=hid (m.below T);clear T;have HY:=hid (show j9 {v1 with d:=d} k y from bm.out);obtain⟨ye,W⟩:∃ye,y.epoch=ye:=⟨_,rfl⟩;have ca:=hid W
    by_cases I:ye=ep
    ·have dc:(ye==ep)=true:=beq_iff_eq.2 I
     have N:=hid (show y.epoch=ep by rw[ca.out];exact I);clear I
     go_upto_region 12 with(first
       |((with_reducible refine ab 134 _ zeroCell (some 9) ?hgd ?ho ?hd ?_);(case hgd|ho|hd=>rfl);(intro b9 w4 X B9 e9 z9))
       |((with_reducible refine aa 134 (.tmp 9) (.tmp 43) b9 cC (y.cells) 134 B9 rfl aX (bZ _) ?hgd ?ho ?hx ?hy ?_);(case hgd|ho|hx|hy=>rfl);(intro w5 B5 o5))
       |fail)
     have p:Below w3.heap.size w3 w5:=o5.below (e9.mono X) X;have B:=hid B5;have o:=hid (Z.below p);have H5:=hid o.at';have c0:=B.cell (i:=0) rfl;clear B9 e9 z9 X B5 o5 p;rw[W]at c0;clear W
     go_wp2_with (first
       |((with_reducible refine aj 134 (.tmp 9) b9 (y.cells) 134 _ B.out underlying134 rfl aX ?hgd ?ho ?hx ?_);(case hgd|ho|hx=>rfl))
       |fail)
     refine(Gf {i with sv:=sv} {v1 with d:=d} y _ H5.out (l.out d k (by omega) u.out) HY.ok (by show y.slot<v1.last.tail;rw[b8.out,HY.slot];exact V)).mono ?_
     rintro e w6 ⟨rfl,g,z,tz,f⟩;rw[HY.slot]at f;have a8:=hid (show aJ w2 w6 {i with sv:=sv} v1 {i with sv:=sv} {v1 with d:=qZ d (k:Int) g z} from o.trans f);have c4:=hid tz;clear f tz c0;go_wp2_with fail;go_roundw
     case rel=>exact⟨k+1,by omega,by go_num,c+1,by go_num,by omega,hid ⟨qZ d (k:Int) g z,a8.out,u.put (i:=4+(k:Int)) (by omega) (by have:=cz.out;omega) g z,Ea D.out HX.out N.out g c4.out,fun j h0 h4=>by rw[ut,if_neg (by have:=Q.out;omega)];exact P.out j h0 h4,fun h=>by omega⟩⟩
     case measure=>simp[intOf];omega
    ·have dc:(ye==ep)=false:=beq_eq_false_iff_ne.2 I
     have N:=hid (show¬y.epoch=ep by rw[ca.out];exact I);clear I
     go_upto_region 12 with(first
       |((with_reducible refine ab 134 _ zeroCell (some 9) ?hgd ?ho ?hd ?_);(case hgd|ho|hd=>rfl);(intro b9 w4 X B9 e9 z9))
       |((with_reducible refine aa 134 (.tmp 9) (.tmp 43) b9 cC (y.cells) 134 B9 rfl aX (bZ _) ?hgd ?ho ?hx ?hy ?_);(case hgd|ho|hx|hy=>rfl);(intro w5 B5 o5))
       |fail)
     have p:Below w3.heap.size w3 w5:=o5.below (e9.mono X) X;have B:=hid B5;have o:=hid (Z.below p);have H5:=hid o.at';have c0:=B.cell (i:=0) rfl;clear B9 e9 z9 X B5 o5 p;rw[W]at c0;clear W;go_wp2_with fail;go_roundw
     case rel=>exact⟨k+1,by omega,by go_num,c,rfl,by omega,hid ⟨d,o.out,u.mono (Nat.le_succ k),uq D.out HX.out (if_neg N.out),P.out,a5.out⟩⟩
     case measure=>simp[intOf];omega
  ·obtain rfl:k=un:=by omega
   clear dv
   by_cases dg:c=0
   ·subst dg
    have HF:=hid (show Calm d v1.last.geo.blocks.toNat 0 from⟨u.up,u.left,u.len,u.hin,by rw[a5.out rfl];exact Nat.le_refl _⟩);go_wp2_with fail;go_ret;exact A.out _ d (H.trans m.out) (by rw[←r.out];exact HF.out) D.out P.out
   ·have ds:¬(c:Int)=0:=by omega
    have ec:((c:Int)==0)=false:=beq_eq_false_iff_ne.2 ds;have c0:=m.at'.vol.cell (i:=0) rfl;go_wp2_with fail
    refine(Bz {i with sv:=sv} {v1 with d:=d} _ m.at' (l.out d k (Nat.le_refl _) u.out)).mono ?_
    rintro e w6 ⟨rfl,f⟩;have a8:=hid (H.trans (m.trans f));clear f c0;go_wp2_with fail;go_ret;exact A.out _ d.flushed a8.out (by rw[←r.out];exact u.flushed) (xX u.out D.out) (fun j h0 h4=>by rw[dj u.out j h0];exact P.out j h0 h4)
structure AV where
 lba:Int
 epoch:Int
 data:ByteArray
inductive LE where
 |cell (x:AV) (c:ak)
 |held (s:ByteArray)
def LE.ent:LE→fx
 | .cell _ c=> .cell c
 | .held s=> .held s
def LE.ver:LE→Option AV
 | .cell x _=>some x
 | .held _=>none
structure vt (key:ByteArray) (b:av) (k:Nat) (x:AV) (c:ak):Prop where
 lba:c.lba=x.lba
 epoch:c.epoch=x.epoch
 slot:c.slot=(k:Int)
 gone:c.gone=b.gone x.epoch
 txt:c.gone=false→ah c.cipher (dO x.data.data.toList (dZ key.data.toList x.epoch.toNat k x.data.size))
structure bY (log:List LE) (key:ByteArray) (b:av) (vers:List ag):Prop where
 fit:∀(k:Nat) x c,log[k]?=some (.cell x c)→vt key b k x c
 mono:∀(j k:Nat) x c y d,j≤k→log[j]?=some (.cell x c)→log[k]?=some (.cell y d)→x.epoch≤y.epoch
 vin:∀(t:Nat) (x:ag),vers[t]?=some x→∃(k:Nat) (y:AV) (c:ak),x=⟨y.lba,y.epoch,(k:Int)⟩∧log[k]?=some (.cell y c)
 vall:∀(k:Nat) y c,log[k]?=some (.cell y c)→∃t:Nat,vers[t]?=some (⟨y.lba,y.epoch,(k:Int)⟩:ag)
 sort:∀(i j:Nat) (a d:ag),vers[i]?=some a→vers[j]?=some d→i<j→gR a d
def lP (lba fr tp:Int) (best:Option AV) (x:AV):Option AV:=
 if x.lba=lba∧fr≤x.epoch∧x.epoch≤tp∧(best.all fun y=>decide (y.epoch≤x.epoch))=true then some x else best
def jO (l:List AV) (lba fr tp:Int):Option AV:=l.foldl (lP lba fr tp) none
def lY (lba fr tp:Int) (best:Option AV) (e:LE):Option AV:=
 match e.ver with
 |some x=>lP lba fr tp best x
 |none=>best
theorem uu (log:List LE) (lba fr a:Int):jO (log.filterMap LE.ver) lba fr a=log.foldl (lY lba fr a) none:=by
 unfold jO;rw[List.foldl_filterMap];refine congrArg (fun f=>List.foldl f none log) (funext fun x=>funext fun y=> ?_);unfold lY
 cases y.ver<;>rfl
def yD (lba fr tp:Int) (x:AV):Prop:=x.lba=lba∧fr≤x.epoch∧x.epoch≤tp
structure Ec (log:List LE) (lba fr tp:Int) (k:Nat) (q:Option AV):Prop where
 no:q=none→∀(j:Nat) x c,j<k→log[j]?=some (.cell x c)→¬yD lba fr tp x
 yes:∀x,q=some x→∃(j:Nat) (c:ak),j<k∧log[j]?=some (.cell x c)∧yD lba fr tp x∧∀(i:Nat) y d,j<i→i<k→log[i]?=some (.cell y d)→¬yD lba fr tp y
theorem nI {log:List LE} (B:∀(j k:Nat) x c y d,j≤k→log[j]?=some (.cell x c)→log[k]?=some (.cell y d)→x.epoch≤y.epoch) (lba fr b:Int):∀k,k≤log.length→Ec log lba fr b k ((log.take k).foldl (lY lba fr b) none)
 |0,_=>⟨fun _ j x c A=>(by omega),fun x h=>(by cases h)⟩
 |k+1,h=>by
  have ih:=nI B lba fr b k (by omega);have f:log[k]?=some log[k]:=List.getElem?_eq_getElem (by omega);rw[List.take_succ_eq_append_getElem (by omega),List.foldl_append]
  generalize(log.take k).foldl (lY lba fr b) none=q at ih
  show Ec log lba fr b (k+1) (lY lba fr b q log[k])
  unfold lY
  cases he:log[k]with
  |held s=>
   rw[he]at f
   show Ec log lba fr b (k+1) q
   exact⟨fun e j x c A a=>(by
    by_cases l:j=k
    ·subst l;rw[f]at a;cases a
    ·exact ih.no e j x c (by omega) a),fun x e=>by
    obtain⟨j,c,w,n,r,t⟩:=ih.yes x e
    exact⟨j,c,by omega,n,r,fun i y d u p hy=>by
     by_cases g:i=k
     ·subst g;rw[f]at hy;cases hy
     ·exact t i y d u (by omega) hy⟩⟩
  |cell z cz=>
   rw[he]at f
   show Ec log lba fr b (k+1) (lP lba fr b q z)
   unfold lP
   by_cases m:yD lba fr b z
   ·have o:(q.all fun y=>decide (y.epoch≤z.epoch))=true:=by
     cases q with
     |none=>rfl
     |some y=>
      obtain⟨j,c,w,n,r,t⟩:=ih.yes y rfl;simp only[Option.all_some,decide_eq_true_eq];exact B j k y c z cz (by omega) n f
    rw[if_pos ⟨m.1,m.2.1,m.2.2,o⟩]
    exact⟨fun e=>(by cases e),fun x a=>by
     injection a with a
     subst a;exact⟨k,cz,by omega,f,m,fun i y d u p _=>by omega⟩⟩
   ·rw[if_neg (fun v=>m ⟨v.1,v.2.1,v.2.2.1⟩)]
    exact⟨fun e j x c A a=>(by
     by_cases l:j=k
     ·subst l;rw[f]at a;injection a with a;injection a with a;subst a;exact m
     ·exact ih.no e j x c (by omega) a),fun x e=>by
     obtain⟨j,c,w,n,r,t⟩:=ih.yes x e
     exact⟨j,c,by omega,n,r,fun i y d u p hy=>by
      by_cases g:i=k
      ·subst g;rw[f]at hy;injection hy with hy;injection hy with hy;subst hy;exact m
      ·exact t i y d u (by omega) hy⟩⟩
theorem II {log:List LE} {key:ByteArray} {b:av} {c:List ag} (h:bY log key b c) (lba ep:Int):∀(i j:Nat) (a d:ag),c[i]?=some a→c[j]?=some d→i≤j→dL lba ep d→dL lba ep a:=by
 intro i j a d g hd l f
 by_cases e:i=j
 ·subst e;rw[g]at hd;injection hd with hd;subst hd;exact f
 ·have k:=h.sort i j a d g hd (by omega)
  unfold gR at k;unfold dL at f ⊢;omega
theorem BV {log:List LE} {key:ByteArray} {b:av} {a:List ag} (h:bY log key b a) {lba fr ep:Int} (n:∀(k:Nat) x c,log[k]?=some (.cell x c)→fr≤x.epoch) {m:Nat} (o:fp a lba ep m):
  (cj a lba m=none∧jO (log.filterMap LE.ver) lba fr ep=none)∨
   ∃(k:Nat) (x:AV) (c:ak),log[k]?=some (.cell x c)∧cj a lba m=some ⟨lba,x.epoch,(k:Int)⟩∧jO (log.filterMap LE.ver) lba fr ep=some x∧x.lba=lba∧x.epoch≤ep:=by
 have p:=nI h.mono lba fr ep log.length (Nat.le_refl _);rw[List.take_of_length_le (Nat.le_refl _),←uu]at p
 generalize jO (log.filterMap LE.ver) lba fr ep=q at p
 cases q with
 |none=>
  left
  refine⟨?_,rfl⟩;unfold cj
  split
  ·rfl
  ·rename_i D
   have hl:m-1<a.length:=by have:=o.le;omega
   rw[List.getElem?_eq_getElem hl]
   show(if(a[m-1]).lba=lba then some a[m-1]else none)=none
   rw[if_neg];intro j;obtain⟨k,y,c,G,g⟩:=h.vin (m-1) _ (List.getElem?_eq_getElem hl);have e:=o.ahead (m-1) _ (List.getElem?_eq_getElem hl) (by omega);rw[G]at j e;unfold dL at e;simp only at j e;exact p.no rfl k y c (List.getElem?_eq_some_iff.1 g).1 g ⟨j,n k y c g,by omega⟩
 |some x=>
  right
  obtain⟨k,c,C,g,⟨s,I,A⟩,i⟩:=p.yes x rfl;refine⟨k,x,c,g, ?_,rfl,s,A⟩;obtain⟨t,r⟩:=h.vall k x c g;have E:=(List.getElem?_eq_some_iff.1 r).1;have e:dL lba ep (⟨x.lba,x.epoch,(k:Int)⟩:ag):= .inr ⟨s,A⟩;have F:t<m:=Nat.lt_of_not_le (fun B=>o.behind t _ r B e)
  have l:t=m-1:=by
   by_cases z:t=m-1
   ·exact z
   ·exfalso
    have hl:m-1<a.length:=by have:=o.le;omega
    obtain⟨k',y,d,hy,f⟩:=h.vin (m-1) _ (List.getElem?_eq_getElem hl);have u:=h.sort t (m-1) _ _ r (List.getElem?_eq_getElem hl) (by omega);have v:=o.ahead (m-1) _ (List.getElem?_eq_getElem hl) (by omega);rw[hy]at u v;unfold gR at u;unfold dL at v;simp only at u v
    have w:k<k':=by
     rcases Nat.lt_or_ge k k' with h3|h3
     ·exact h3
     ·have H:=h.mono k' k y d x c h3 f g
      omega
    exact i k' y d w (List.getElem?_eq_some_iff.1 f).1 f ⟨by omega,n k' y d f,by omega⟩
  unfold cj;rw[if_neg (by omega),←l,r]
  show(if x.lba=lba then some (⟨x.lba,x.epoch,(k:Int)⟩:ag)else none)= _
  rw[if_pos s,s]
def iE (P:Nat→Bool):Nat→Nat
 |0=>0
 |n+1=>iE P n+(if P n=true then 1 else 0)
theorem li {P Q:Nat→Bool}:∀n,(∀k,k<n→P k=Q k)→iE P n=iE Q n
 |0,_=>rfl
 |n+1,h=>by unfold iE;rw[li n (fun k a=>h k (by omega)),h n (by omega)]
theorem oQ {P Q:Nat→Bool} {a:Nat} (hp:P a=false) (c:Q a=true):∀n,(∀k,k<n→k≠a→P k=Q k)→a<n→iE Q n=iE P n+1
 |0,_,h=>by omega
 |n+1,h,ha=>by
  unfold iE
  by_cases hn:n=a
  ·subst hn
   rw[hp,c,li n (fun k d=>(h k (by omega) (by omega)).symm)];simp
  ·rw[oQ hp c n (fun k d b=>h k (by omega) b) (by omega),h n (by omega) hn]
   omega
def oR (vers:List ag) (t k:Nat):Bool:=(vers.take t).any fun x=>decide (x.lba=(k:Int))
theorem kA {a:List ag} {t k:Nat}:oR a t k=true↔∃(i:Nat) (x:ag),i<t∧a[i]?=some x∧x.lba=(k:Int):=by
 unfold oR;rw[List.any_eq_true]
 constructor
 ·rintro⟨x,c,hd⟩
  obtain⟨i,b⟩:=List.mem_iff_getElem?.1 c;rw[List.getElem?_take]at b
  split at b
  ·exact⟨i,x,by assumption,b,by simpa using hd⟩
  ·cases b
 ·rintro⟨i,x,b,c,hd⟩
  refine⟨x,List.mem_iff_getElem?.2 ⟨i, ?_⟩,by simpa using hd⟩;rw[List.getElem?_take,if_pos b,c]
theorem uv {b:List ag} {n:Nat} (y:∀(i j:Nat) (a d:ag),b[i]?=some a→b[j]?=some d→i<j→gR a d) (hb:∀(i:Nat) (x:ag),b[i]?=some x→0≤x.lba∧x.lba<(n:Int)):
  ∀t,t≤b.length→(dn (b.take t)).1=iE (oR b t) n∧(dn (b.take t)).2=(match t with|0=>-1|s+1=>((b[s]?).map ag.lba).getD (-1))
 |0,_=>⟨by
   have:∀m,iE (oR b 0) m=0:=fun m=>by
    induction m with
    |zero=>rfl
    |succ m ih=>unfold iE;rw[ih];simp[oR]
   rw[this];rfl,rfl⟩
 |t+1,h=>by
  obtain⟨z,q⟩:=uv y hb t (by omega);have o:b[t]?=some b[t]:=List.getElem?_eq_getElem (by omega);obtain⟨F,G⟩:=hb t _ o;rw[qk o];unfold j8;refine⟨?_,by simp only[o];rfl⟩
  show(if b[t].lba=(dn (b.take t)).2 then(dn (b.take t)).1 else(dn (b.take t)).1+1)= _
  obtain⟨a,r⟩:∃a:Nat,b[t].lba=(a:Int):=⟨b[t].lba.toNat,by omega⟩
  have g:∀k,k≠a→oR b t k=oR b (t+1) k:=by
   intro k p;rw[Bool.eq_iff_iff,kA,kA]
   constructor
   ·rintro⟨i,x,A,c,hd⟩
    exact⟨i,x,by omega,c,hd⟩
   ·rintro⟨i,x,A,c,hd⟩
    by_cases v:i=t
    ·subst v
     rw[o]at c
     injection c with c
     subst c;exact absurd (show(k:Int)=a by omega) (by omega)
    ·exact⟨i,x,by omega,c,hd⟩
  have l:oR b (t+1) a=true:=kA.2 ⟨t,_,by omega,o,r⟩
  by_cases f:b[t].lba=(dn (b.take t)).2
  ·rw[if_pos f,z]
   refine li n (fun k _=> ?_)
   by_cases p:k=a
   ·subst p
    rw[l]
    cases t with
    |zero=>rw[q]at f;simp only at f;omega
    |succ s=>
     have e:b[s]?=some b[s]:=List.getElem?_eq_getElem (by omega);rw[q]at f;simp only[e]at f;exact kA.2 ⟨s,_,by omega,e,f.symm.trans r⟩
   ·exact g k p
  ·rw[if_neg f,z]
   have w:oR b t a=false:=by
    rw[Bool.eq_false_iff];intro C;obtain⟨i,x,A,c,hd⟩:=kA.1 C
    cases t with
    |zero=>omega
    |succ s=>
     have e:b[s]?=some b[s]:=List.getElem?_eq_getElem (by omega);rw[q]at f;simp only[e]at f;have D:=y s (s+1) _ _ e o (by omega);unfold gR at D
     by_cases u:i=s
     ·subst u
      rw[e]at c
      injection c with c
      exact f (r.trans (by rw[c];exact hd.symm))
     ·have E:=y i s _ _ c e (by omega)
      unfold gR at E;have B:¬b[s+1].lba=b[s].lba:=f;omega
   rw[oQ w l n (fun k _ p=>g k p) (by omega)]
def vu (l:List AV) (lbas:Int) (fr:Int):Nat:=iE (fun k=>(jO l (k:Int) fr 4294967295).isSome) lbas.toNat
theorem BW {log:List LE} {key:ByteArray} {b:av} {d:List ag} (h:bY log key b d) {fr e:Int} (hl:∀(k:Nat) x c,log[k]?=some (.cell x c)→fr≤x.epoch∧x.epoch≤4294967295∧0≤x.lba∧x.lba<e):
  (dn d).1=vu (log.filterMap LE.ver) e fr:=by
 have hb:∀(i:Nat) (x:ag),d[i]?=some x→0≤x.lba∧x.lba<((e.toNat:Nat):Int):=fun i x l=>by
  obtain⟨k,y,c,j,f⟩:=h.vin i x l
  have:=hl k y c f
  rw[j]
  show 0≤y.lba∧y.lba<_
  omega
 have m:=(uv h.sort hb d.length (Nat.le_refl _)).1;rw[List.take_of_length_le (Nat.le_refl _)]at m;rw[m];unfold vu;refine li _ (fun a w=> ?_);have g:=nI h.mono (a:Int) fr 4294967295 log.length (Nat.le_refl _);rw[List.take_of_length_le (Nat.le_refl _),←uu]at g;rw[Bool.eq_iff_iff,kA]
 generalize jO (log.filterMap LE.ver) (a:Int) fr 4294967295=q at g
 constructor
 ·rintro⟨i,x,A,l,hd⟩
  obtain⟨k,y,c,j,f⟩:=h.vin i x l;have n:=hl k y c f
  cases q with
  |some z=>rfl
  |none=>
   exact absurd ⟨by rw[j]at hd;exact hd,n.1,n.2.1⟩ (g.no rfl k y c (List.getElem?_eq_some_iff.1 f).1 f)
 ·intro s
  cases q with
  |none=>cases s
  |some z=>
   obtain⟨k,c,u,p,r,v⟩:=g.yes z rfl;obtain⟨t,o⟩:=h.vall k z c p;exact⟨t,_,(List.getElem?_eq_some_iff.1 o).1,o,r.1⟩
end Go.Proofs.YtadooplpfhdhcaaGreat
