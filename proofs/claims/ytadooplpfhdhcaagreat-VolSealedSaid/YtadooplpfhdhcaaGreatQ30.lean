/- What a volume's blocks show behind an append, a commit, an over; cell Left; wipe (chapter 26). Purge (chapter 26), however it ends; where there is no ring. A volume, in plain words (chapters 24 and 26): the log of its blocks, its versions, and the newest one of a place. -/
import Derived.Test.YtadooplpfhdhcaaGreatQ28
import Derived.Test.YtadooplpfhdhcaaGreatQ29
import Derived.Test.YtadooplpfhdhcaaGreatQ27
set_option linter.unusedSimpArgs false
set_option linter.unusedVariables false
set_option maxRecDepth 100000
set_option maxHeartbeats 4000000
namespace Go.Proofs.YtadooplpfhdhcaaGreat
open Go Go.RowKit Go.Maps Go.WideMaps
open Go.Lib (hid)
open Go.Proofs.Tryz
def iI (c:aw):aw:=⟨c.epoch,c.slot,c.lba,true,⟨#[]⟩⟩
theorem Az {c:aw} (h:bI c):bI (iI c):=⟨h.e0,h.e1,h.s0,h.s1,h.l0,h.l1,by show(0:Nat)≤4000;omega,fun _=>rfl⟩
def rP (ep:Int):gP→gP
 | .cell c=>if c.epoch=ep then .cell (iI c)else .cell c
 | .held s=> .held s
theorem fa.to {v v':ak} {k:Nat} {e:gP} (h:fa v k e) (g:v'.last.geo=v.last.geo) (f:v'.first=v.first) (b:v.epoch≤v'.epoch) (a:v'.d.shown (4+(k:Int))=v.d.shown (4+(k:Int))):fa v' k e:=by
 cases e with
 |cell c=>exact⟨h.ok,h.slot,by rw[g];exact h.lba,by rw[f];exact h.e0,Int.le_trans h.e1 b,by rw[a];exact h.txt⟩
 |held s=>exact⟨h.n0,h.n1,by rw[a];exact h.txt⟩
theorem xK (v:ak) (b:Value) (a:ByteArray) (j:Int):(nU v b a).d.shown j=if 4+v.used=j then a else v.d.shown j:=fg v.d b (4+v.used) j a
theorem AA {v:ak} {n m:Nat} (h:Calm v.d n m) (a:4≤n) (t:Int) (q:ByteArray):Calm (oI v t q) n 0:=
 (h.flushed.put (i:=(eW v t).gen % 2) (by omega) (by omega) v.d.flushed.cv q).flushed
theorem xM {v:ak} {n m:Nat} (h:Calm v.d n m) (e:4≤n) (t:Int) (q:ByteArray) (j:Int) (a:0≤j):(oI v t q).shown j=if(eW v t).gen % 2=j then q else v.d.shown j:=by
 have c:=h.flushed.put (i:=(eW v t).gen % 2) (by omega) (by omega) v.d.flushed.cv q;have b:=fg v.d.flushed v.d.flushed.cv ((eW v t).gen % 2) j q;unfold oI;rw[eS c j a];refine b.trans ?_;rw[eS h j a]
theorem AB {v:ak} (c:bC v) (hu:v.used<v.last.geo.blocks-5) (r:Rec) (b:Value) (t a q:ByteArray) (n:Nat) (U L G:DataW Unit) (j:Int) (e:0≤j):
  (cX v r b t a q n U L G).d.shown j=if(v.last.gen+1) % 2=j then q else if 4+v.used=j then a else v.d.shown j:=by
 have k:=(c.put hu b a).calm;have f:=c.sup.geo.b0
 refine(xM (v:=nU v b a) k (by show 4≤v.last.geo.blocks.toNat;omega) v.clock q j e).trans ?_
 rw[xK]
 rfl
theorem sx {v:ak} (c:bC v) (hu:v.used<v.last.geo.blocks-5) (r:Rec) (b:Value) (t a q:ByteArray) (n:Nat) (U L G:DataW Unit):
  Calm (cX v r b t a q n U L G).d v.last.geo.blocks.toNat 0:=
 AA (v:=nU v b a) (c.put hu b a).calm (by show 4≤v.last.geo.blocks.toNat;have:=c.sup.geo.b0;omega) v.clock q
def rQ (v:ak) (r:Rec) (t:ByteArray):gP:= .held ⟨(cI (aS v r)++t.data.toList).toArray⟩
theorem uS {v:ak} (s:bC v) (hu:v.used<v.last.geo.blocks-5) {log:List gP} (hl:(log.length:Int)=v.used) (c:∀k e,log[k]?=some e→fa v k e) {r:Rec} (o:aL (aS v r)=true) (h:Value) {t f:ByteArray} (q:ByteArray) (n:Nat) (U L G:DataW Unit)
  (p:t.size=32) (hb:aj f (holdL (cI (aS v r)++t.data.toList))):∀k e,(log++[rQ v r t])[k]?=some e→fa (cX v r h t f q n U L G) k e:=by
 intro k e b;have l:(v.last.gen+1) % 2=0∨(v.last.gen+1) % 2=1:=by omega
 have a:=AB s hu r h t f q n U L G (4+(k:Int)) (by omega);rw[if_neg (by omega)]at a
 by_cases m:k<log.length
 ·rw[List.getElem?_append_left m]at b
  rw[if_neg (by omega)]at a
  exact(c k e b).to rfl rfl (Int.le_refl _) a
 ·have g:k=log.length:=by
   have:=(List.getElem?_eq_some_iff.1 b).1
   simp at this;omega
  subst g;rw[List.getElem?_append_right (Nat.le_refl _)]at b;simp at b;subst b;rw[if_pos (by omega)]at a;have j:=eR o;have i:(cI (aS v r)++t.data.toList).length=(cI (aS v r)).length+32:=by rw[List.length_append,show t.data.toList.length=32 from p]
  have d:ByteArray.size ⟨(cI (aS v r)++t.data.toList).toArray⟩=(cI (aS v r)).length+32:=by show(cI (aS v r)++t.data.toList).toArray.size= _;simp[←i]
  exact⟨by rw[d];omega,by rw[d];omega,by rw[a];simpa using hb⟩
def rR (d:ao) (k:Int) (cv:Value) (z:ByteArray):ao:={d with cv:=cv,cs:=d.cs++[(4+k,z)]}
theorem yV (c:aw) (w:World):
  Calls prog 196 #[.agg c.cells.toArray] w fun e w'=>e= .returned (.agg (iI c).cells.toArray)∧Below w.heap.size w w':=by
 go_enter func196,ntmps196
 go_upto_region 1 with(first
  |((with_reducible refine ae 134 (.tmp 0) c.cells (some 1) ?hgd ?ho ?hd ?hx ?_);(case hgd|ho|hd|hx=>rfl);(intro d G j q s u))
  |((with_reducible refine ab 134 _ zeroCell (some 2) ?hgd ?ho ?hd ?_);(case hgd|ho|hd=>rfl);(intro h E t r o F))
  |fail)
 have f:=hid (q.below o (by omega));have y:=hid r;have x:=hid ((s.mono j).trans (o.mono (Nat.le_trans (Nat.le_trans j (Nat.le_of_lt u)) t)));have g:=hid (show h≠d by omega);have m:=hid (And.intro j (show w.heap.size≤h by omega));clear q s r o u t j F;have z:=f.cell (i:=3) rfl;have B:=f.free 3;have A:=f.cell (i:=4) rfl;have C:=f.free 4;go_upto_region 2 with fail;obtain⟨w5,b⟩:∃w5,(E.setCell ⟨d,3,none⟩ (.bool true)).setCell ⟨d,4,none⟩ (.string ⟨#[]⟩)=w5:=⟨_,rfl⟩;have k:=hid (show ac w5 d (iI c).cells 134 from by rw[←b];exact((f.set 3 (.bool true)).set 4 (.string ⟨#[]⟩)).ext rfl);have n:=hid (show ac w5 h dL 134 from by rw[←b];exact(y.set_other (a:=⟨d,3,none⟩) g.out _).set_other (a:=⟨d,4,none⟩) g.out _);have l:=hid (show Below w.heap.size w w5 from by rw[←b];exact(x.setCell (p:=⟨d,3,none⟩) m.out.1 _).setCell (p:=⟨d,4,none⟩) m.out.1 _);rw[b];clear b z B A C
 go_wp2_with (first
  |((with_reducible refine al 134 (.tmp 1) d ((iI c).cells) 134 _ k.out underlying134 rfl bB ?hgd ?ho ?hx ?_);(case hgd|ho|hx=>rfl))
  |((with_reducible refine aa 134 (.tmp 2) (.tmp 5) h dL (iI c).cells 134 n.out rfl bB (dj _) ?hgd ?ho ?hx ?hy ?_);(case hgd|ho|hx|hy=>rfl);(intro H v D))
  |fail)
 (try simp only[Exit.inBlock,Exit.then])
 refine bodyPost_ret (aZ rfl _ _ v.range rfl underlying134 rfl bB) rfl ?_;exact⟨rfl,D.below l.out m.out.2⟩
theorem GZ (i:ar) (v:ak) (c:aw) (w:World) (h:am w i v) (P:bC v) (hc:bI c) (O:c.slot<v.last.tail):
  Calls prog 110 #[.pointer (some ⟨i.vb,0,none⟩), .agg c.cells.toArray] w fun e S=>e= .returned (.int .i64 0)∧∃F z,aj z (cellL (iI c))∧aK w S i v i {v with d:=rR v.d c.slot F z}:=by
 have I:=hid h;have D:=hid P;have p:=hid hc;have E:=hid O;clear h P hc O;go_enter func110,ntmps110
 go_wp2_with (first
  |((with_reducible refine ae 134 (.tmp 1) c.cells (some 3) ?hgd ?ho ?hd ?hx ?_);(case hgd|ho|hd|hx=>rfl);(intro L U G x M T))
  |((with_reducible refine al 134 (.tmp 3) L (c.cells) 134 _ x underlying134 rfl bB ?hgd ?ho ?hx ?_);(case hgd|ho|hx=>rfl))
  |fail)
 have C:=hid G;have q:=hid (M.mono G);have n:=hid x;clear x M T G
 refine(yV c _).mono ?_
 rintro e V ⟨rfl,k⟩;have o:=hid (n.below k n.lt);have r:=hid (q.trans (k.mono q.size));clear k;go_wp2_with fail
 refine(mB (iI c) _ (Az p.out)).mono ?_
 rintro e H ⟨⟨z,rfl,Q⟩,l⟩;have t:=hid Q;have g:=hid (o.below l o.lt);have j:=hid (r.trans (l.mono r.size));have J:=hid (I.below j.out);clear l Q;go_upto_region 2 with fail;refine hb (fun u=>u.cell? ⟨i.vb,0,none⟩=some (.pointer (some ⟨i.jb,0,none⟩))∧u.cell? ⟨L,1,none⟩=some (.int .i64 c.slot)) (⟨J.vol.drew.cell (i:=0) rfl,g.drew.cell (i:=1) rfl⟩) fun a=> ?_
 obtain⟨wd,f⟩:∃u,u=H.drew:=⟨_,rfl⟩;have b:Below H.heap.size H wd:=by rw[f];exact(Below.refl _ _).drew
 have R:=hid (J.below b);have A:=hid (g.below b g.lt);have B:=hid (j.trans (b.mono j.size));rw[←f];rw[←f]at a;clear f b;refine hp 0 ?_;refine hp 1 ?_;refine hp 2 ?_;refine hp 3 ?_;refine hp 4 ?_;refine hp 5 ?_;refine hp 6 ?_;refine hc 7 fun K N=> ?_
 go_simp
 refine(EI i v c.slot z _ R.out D.out (by rw[t.size];exact gh _ (by show(0:Nat)≤4000;omega)) p.s0 E.out).mono ?_
 rintro e W ⟨rfl,F,m⟩;have s:=hid m;have y:=hid (m.turned.blk A.out (I.fresh C.out));clear m
 (try go_wp2_with fail)
 refine N.out _ _ (⟨s.at'.vol.cell (i:=0) rfl,y.cell (i:=1) rfl⟩) fun _=> ?_
 clear N K a;rename_i a
 (try go_frame)
 refine hp 8 ?_;refine hd ?_;clear a;go_wp2_with fail;go_ret;exact⟨rfl,F,z,t.out,aK.ahead B.out s.out⟩
def qZ (ep:Int) (k:Nat) (j:Nat) (e:gP):gP:=if j<k then rP ep e else e
structure jJ (v:ak) (d:ao) (log:List gP) (ep:Int) (k:Nat):Prop where
 all:∀j e,log[j]?=some e→fa {v with d:=d} j (qZ ep k j e)
theorem uT {v:ak} {d:ao} {log:List gP} {ep:Int} {k:Nat} {x:gP} (h:jJ v d log ep k) (i:log[k]?=some x) (g:rP ep x=x):jJ v d log ep (k+1):=⟨fun j e c=>by
 have a:=h.all j e c;unfold qZ at a ⊢
 by_cases b:j<k
 ·rw[if_pos b]at a
  rw[if_pos (by omega)];exact a
 ·rw[if_neg b]at a
  by_cases f:j=k
  ·subst f
   obtain rfl:x=e:=by rw[i]at c;injection c
   rw[if_pos (by omega),g];exact a
  ·rw[if_neg (by omega)]
   exact a⟩
theorem uU (d:ao) (k:Int) (a:Value) (z:ByteArray) (j:Int):(rR d k a z).shown j=if 4+k=j then z else d.shown j:=fg d a (4+k) j z
theorem E4 {v:ak} {d:ao} {log:List gP} {ep:Int} {k:Nat} {c:aw} (h:jJ v d log ep k) (o:log[k]?=some (.cell c)) (n:c.epoch=ep) (l:Value) {z:ByteArray} (p:aj z (cellL (iI c))):jJ v (rR d (k:Int) l z) log ep (k+1):=⟨fun j e g=>by
 have a:=h.all j e g;have b:=uU d (k:Int) l z (4+(j:Int));unfold qZ at a ⊢
 by_cases i:j<k
 ·rw[if_pos i]at a
  rw[if_pos (by omega)];rw[if_neg (by omega)]at b;exact a.to rfl rfl (Int.le_refl _) b
 ·rw[if_neg i]at a
  by_cases m:j=k
  ·subst m
   rw[o]at g
   injection g with g
   subst g;rw[if_pos (by omega)];rw[if_pos rfl]at b;rw[show rP ep (.cell c)= .cell (iI c)from if_pos n];have f:iq {v with d:=d} j c:=a;exact⟨Az f.ok,f.slot,f.lba,f.e0,f.e1,by show aj ((rR d (j:Int) l z).shown (4+(j:Int))) _;rw[b];exact p⟩
  ·rw[if_neg (by omega)]
   rw[if_neg (by omega)]at b;exact a.to rfl rfl (Int.le_refl _) b⟩
def Jo (w:World) (i:ar) (v:ak) (b:ax) (ep:Int) (log:List gP) (e:Ending) (w':World):Prop:=
 ∃(cv:Value) (t bl q:ByteArray) (n:Nat) (U L G:DataW Unit) (sv:Value) (d:ao),aj t (iL v.key.data.toList (cC v.sealed).data.toList (v.sealed.length:Int) (aS v ⟨5,0,0,0,ep,b.till ep,⟨#[]⟩,⟨#[]⟩⟩))∧aj bl (holdL (cI (aS v ⟨5,0,0,0,ep,b.till ep,⟨#[]⟩,⟨#[]⟩⟩)++t.data.toList))∧aj q (eC (eW (nU v cv bl) v.clock))∧
  bK U L G (b.app (aS v ⟨5,0,0,0,ep,b.till ep,⟨#[]⟩,⟨#[]⟩⟩))∧n≤v.n+1∧e= .returned (.int .i64 0)∧aK w w' i v {i with sv:=sv} {cX v ⟨5,0,0,0,ep,b.till ep,⟨#[]⟩,⟨#[]⟩⟩ cv t bl q n U L G with d:=d}∧Calm d v.last.geo.blocks.toNat 0∧
  (∀j e,(log++[rQ v ⟨5,0,0,0,ep,b.till ep,⟨#[]⟩,⟨#[]⟩⟩ t])[j]?=some e→fa {cX v ⟨5,0,0,0,ep,b.till ep,⟨#[]⟩,⟨#[]⟩⟩ cv t bl q n U L G with d:=d} j (rP ep e))∧∀j,0≤j→j<4→d.shown j=(cX v ⟨5,0,0,0,ep,b.till ep,⟨#[]⟩,⟨#[]⟩⟩ cv t bl q n U L G).d.shown j
def gR (w:World) (i:ar) (v:ak) (b:ax) (ep:Int) (log:List gP) (e:Ending) (w':World):Prop:=
 if eB v.first v.epoch v.now b (aS v ⟨5,0,0,0,ep,b.till ep,⟨#[]⟩,⟨#[]⟩⟩)=0 then(if cj v.last.geo v.used=0 then e= .returned (.int .i64 5)∧Below w.heap.size w w' else Jo w i v b ep log e w')
 else e= .returned (.int .i64 (eB v.first v.epoch v.now b (aS v ⟨5,0,0,0,ep,b.till ep,⟨#[]⟩,⟨#[]⟩⟩)))∧Below w.heap.size w w'
theorem E6 (e u:Int):prog.built 59 [(0, .int .i64 5),(4, .int .i64 e),(5, .int .i64 u)]=some (Rec.cells ⟨5,0,0,0,e,u,⟨#[]⟩,⟨#[]⟩⟩).toArray:=by kernel_rfl
theorem yW {v:ak} {d:ao} {log:List gP} {ep:Int} {k n m:Nat} (hc:Calm d n m) (h:jJ v d log ep k):jJ v d.flushed log ep k:=
 ⟨fun j e a=>(h.all j e a).to rfl rfl (Int.le_refl _) (eS hc (4+(j:Int)) (by omega))⟩
def K3 (w0 wr:World) (i:ar) (v1:ak) (log:List gP) (ep:Int) (k c:Nat):Prop:=
 ∃d,aK w0 wr i v1 i {v1 with d:=d}∧Calm d v1.last.geo.blocks.toNat k∧jJ v1 d log ep k∧(∀j,0≤j→j<4→d.shown j=v1.d.shown j)∧(c=0→d.cs=[])
theorem Ds (i:ar) (v:ak) (b:ax) (ep:Int) (log:List gP) (w:World) (h:am w i v) (cf:i.rv= .pointer none) (hs:jH v b) (cg:fL) (hl:(log.length:Int)=v.used) (a2:∀k e,log[k]?=some e→fa v k e):
  Calls prog 38 #[.pointer (some ⟨i.vb,0,none⟩), .int .i64 ep] w fun e w'=>bT (dp v ep) w w' e (gR w i v b ep log e w'):=by
 have bv:=hid (ip i v ep w h);have c1:=hid (fun(wx:World) (hx:am wx i v)=>lU i v b ⟨5,0,0,0,ep,b.till ep,⟨#[]⟩,⟨#[]⟩⟩ wx hx cf hs (show¬(5:Int)=1 by decide) (show 0≤1073741824 by decide) cg);have H0:=hid h;have F:=hid hs;have bx:=hid hl;have cx:=hid a2;obtain⟨q,hq⟩:∃q,dp v ep=q:=⟨_,rfl⟩;rw[hq]at bv;have HQ:=hid hq;obtain⟨tl,ck⟩:∃tl,b.till ep=tl:=⟨_,rfl⟩;have a9:=hid ck;clear h cf hs cg hl a2 hq ck;go_enter func38,ntmps38;go_wp2_with fail;refine bv.mono ?_;rintro e w1 ⟨rfl,bm⟩;have C:=hid bm;have H1:=hid (H0.below bm);clear bm
 by_cases h0:q=0
 case neg=>
  have HN:=hid h0;go_wp2_with fail;go_ret;exact bT.no HQ.out HN.out C.out
 subst h0
 have bw:=hid (show 0≤ep∧ep≤4294967295 by
  have Q:=HQ.out;have h2:=F.ok.sup.geo.f0;have h3:=F.e1;unfold dp at Q
  split at Q
  ·cases Q
  ·omega)
 have c5:w1.cell? ⟨i.vb,5,none⟩=some (.pointer (some ⟨i.bb,0,none⟩)):=H1.vol.cell (i:=5) rfl;go_wp2_with fail
 refine(GE i.bb i.c2 i.m1 i.m2 i.m3 v.n v.first v.epoch v.U v.L v.G b ep _ H1.book H1.maps F.maps bw.out.1 bw.out.2).mono ?_
 rintro e w' ⟨rfl,rfl⟩;rw[a9.out]
 go_wp2_with (first
  |((with_reducible refine av 59 ?parts26 (Rec.cells ⟨5,0,0,0,ep,tl,⟨#[]⟩,⟨#[]⟩⟩) ?hg ?ho ?hf ?_);(case hg|ho=>rfl);(case hf=>exact E6 _ _))
  |fail)
 rw[←a9.out]
 refine(c1.out _ H1.out).mono ?_
 intro e w2 J;clear c5;unfold cH at J
 split at J
 case isFalse hmay=>
  obtain⟨rfl,R⟩:=J;have HM:=hid hmay;have K:=hid (C.trans (R.mono C.size));obtain⟨my,ah⟩:∃my,eB v.first v.epoch v.now b (aS v ⟨5,0,0,0,ep,b.till ep,⟨#[]⟩,⟨#[]⟩⟩)=my:=⟨_,rfl⟩;have cz:=hid ah;rw[ah]at hmay;rw[ah];clear R ah;go_wp2_with fail;go_ret;refine bT.yes HQ.out ?_;unfold gR;rw[if_neg HM.out];exact⟨by rw[cz.out];rfl,K.out⟩
 case isTrue hmay=>
 have HM:=hid hmay
 split at J
 case isTrue hrm=>
  obtain⟨rfl,R⟩:=J;have HR:=hid hrm;have K:=hid (C.trans (R.mono C.size));clear R hmay hrm;go_wp2_with fail;go_ret;refine bT.yes HQ.out ?_;unfold gR;rw[if_pos HM.out,if_pos HR.out];exact⟨rfl,K.out⟩
 case isFalse hrm=>
 have HR:=hid hrm;obtain⟨o,t,P,q,n,U,L,G,sv,tt,tb,tq,cb,hn,rfl,f⟩:=J
 have E:=hid (show v.used<v.last.geo.blocks-5 from by
  unfold cj at hrm
  omega)
 have bd:=hid tt;have a8:=hid tb;have b5:=hid tq;have b2:=hid cb;have b3:=hid hn;have H:=hid (aK.ahead C.out f)
 have a0:=hid (show aL (aS v ⟨5,0,0,0,ep,b.till ep,⟨#[]⟩,⟨#[]⟩⟩)=true from by
  cases hq:aL (aS v ⟨5,0,0,0,ep,b.till ep,⟨#[]⟩,⟨#[]⟩⟩)with
  |true=>rfl
  |false=>
   unfold eB at hmay;rw[if_pos hq]at hmay
   cases hmay)
 have N:=hid (uS F.ok E.out bx.out cx.out a0.out o q n U L G (by rw[bd.size,dt]) a8.out);have X:=hid (sx F.ok E.out ⟨5,0,0,0,ep,b.till ep,⟨#[]⟩,⟨#[]⟩⟩ o t P q n U L G);have a6:=hid (show ∀d,Calm d v.last.geo.blocks.toNat (v.used+1).toNat→bC {cX v ⟨5,0,0,0,ep,b.till ep,⟨#[]⟩,⟨#[]⟩⟩ o t P q n U L G with d:=d} from fun d hd=>⟨(F.ok.put E.out o P).com F.c0 F.t1 F.gen,by show 0≤v.used+1;have:=F.ok.u0;omega,by show v.used+1≤v.last.geo.blocks-4;have:=E.out;omega,hd⟩);clear tt tb tq cb hn f hmay hrm;obtain⟨un,bn⟩:∃un:Nat,(un:Int)=v.used+1:=⟨(v.used+1).toNat,by have:=F.ok.u0;omega⟩;have be:=hid bn;have c6:=hid bn;have c4:=hid (show un≤1020 by have:=E.out;have:=F.ok.sup.geo.b1;omega);have a5:=hid (show(log++[rQ v ⟨5,0,0,0,ep,b.till ep,⟨#[]⟩,⟨#[]⟩⟩ t]).length=un by rw[List.length_append];have:=bx.out;simp;omega)
 have A:=hid (fun(wx:World) (d:ao) (f:aK w wx i v {i with sv:=sv} {cX v ⟨5,0,0,0,ep,b.till ep,⟨#[]⟩,⟨#[]⟩⟩ o t P q n U L G with d:=d}) (hc:Calm d v.last.geo.blocks.toNat 0) (hi:jJ (cX v ⟨5,0,0,0,ep,b.till ep,⟨#[]⟩,⟨#[]⟩⟩ o t P q n U L G) d (log++[rQ v ⟨5,0,0,0,ep,b.till ep,⟨#[]⟩,⟨#[]⟩⟩ t]) ep un) (an:∀j,0≤j→j<4→d.shown j=(cX v ⟨5,0,0,0,ep,b.till ep,⟨#[]⟩,⟨#[]⟩⟩ o t P q n U L G).d.shown j)=>show bT (dp v ep) w wx (.returned (.int .i64 0)) (gR w i v b ep log (.returned (.int .i64 0)) wx)from by
  refine bT.yes HQ.out ?_;unfold gR;rw[if_pos HM.out,if_neg HR.out];refine⟨o,t,P,q,n,U,L,G,sv,d,bd.out,a8.out,b5.out,b2.out,b3.out,rfl,f,hc,fun j e hj=> ?_,an⟩;have Q:=hi.all j e hj;unfold qZ at Q;rw[if_pos (by have:=(List.getElem?_eq_some_iff.1 hj).1;have:=a5.out;omega)]at Q;exact Q)
 have r:=hid (show(cX v ⟨5,0,0,0,ep,b.till ep,⟨#[]⟩,⟨#[]⟩⟩ o t P q n U L G).last.geo.blocks.toNat=v.last.geo.blocks.toNat from rfl);have Z:=hid (show(cX v ⟨5,0,0,0,ep,b.till ep,⟨#[]⟩,⟨#[]⟩⟩ o t P q n U L G).used=(un:Int) by rw[be.out];rfl);have b6:=hid (show(cX v ⟨5,0,0,0,ep,b.till ep,⟨#[]⟩,⟨#[]⟩⟩ o t P q n U L G).last.tail=(un:Int) by rw[be.out];rfl);rw[show(v.used+1).toNat=un by omega]at a6
 generalize cX v ⟨5,0,0,0,ep,b.till ep,⟨#[]⟩,⟨#[]⟩⟩ o t P q n U L G=v1 at H N X a6 A r Z b6
 generalize log++[rQ v ⟨5,0,0,0,ep,b.till ep,⟨#[]⟩,⟨#[]⟩⟩ t]=lg at N A a5
 clear bd a8 b5 b2 b3 be bn a0 a9;have g:=hid (fun(d:ao) (k:Nat) (hk:k≤un) (hc:Calm d v1.last.geo.blocks.toNat k)=>a6.out d (by rw[←r.out];exact hc.mono hk));have c0:w2.cell? ⟨i.vb,0,none⟩=some (.pointer (some ⟨i.jb,0,none⟩)):=H.at'.vol.cell (i:=0) rfl;go_wp2_with fail
 refine(pi {i with sv:=sv} v1 _ H.at' (g.out v1.d 0 (Nat.zero_le _) (by rw[r.out];exact X.out))).mono ?_
 rintro e w' ⟨rfl,rfl⟩;rw[Z.out];clear c0;have cy:=hid (show(un:Int)<v1.last.geo.blocks.toNat-4 from by have:=E.out;have:=c6.out;rw[r.out];have:=F.ok.sup.geo.b0;omega);have eg:(un:Int)≤1020:=by have:=c4.out;omega
 go_wp2_with fail;go_loopw [7,36] (fun a x wr=>∃k:Nat,k≤un∧x= .int .i64 k∧∃c:Nat,a= .int .i64 (c:Int)∧c≤k∧Hid (K3 w2 wr {i with sv:=sv} v1 lg ep k c)) (fun _ x _=>un-(intOf x).toNat)
 case atStart=>exact⟨0,Nat.zero_le _,rfl,0,rfl,Nat.le_refl _,hid ⟨v1.d,aK.refl H.at',by rw[r.out];exact X.out,⟨fun j e hj=>N.out j e hj⟩,fun j _ _=>rfl,fun _=>List.eq_nil_of_length_eq_zero (Nat.le_zero.1 X.few)⟩⟩
 case round=>
  obtain⟨k,hk,rfl,c,rfl,ee,cc⟩:=hrel;obtain⟨d,f,hc,ca,an,b8⟩:=cc.out;have l:=hid f;have u:=hid hc;have D:=hid ca;have O:=hid an;have a4:=hid b8;clear cc f hc ca an b8
  by_cases dv:k<un
  ·have T:(k:Int)<(un:Int):=by omega
   obtain⟨x,hx⟩:∃x,lg[k]?=some x:=⟨_,List.getElem?_eq_getElem (by have:=a5.out;omega)⟩;have HX:=hid hx
   have bi:=hid (show fa {v1 with d:=d} k x from by
    have Q:=D.all k x hx;unfold qZ at Q;rw[if_neg (by omega)]at Q;exact Q)
   clear hx;go_wp2_with fail
   cases x with
   |held s=>
    refine(kU {i with sv:=sv} {v1 with d:=d} k (.held s) _ l.at' (g.out d k (by omega) u.out) (by show(k:Int)<v1.used;rw[Z.out];exact T) bi.out).mono ?_
    rintro e w3 ⟨he,S⟩;obtain rfl:e= .returned (.tuple #[.agg dL.toArray, .int .i64 3]):=he;have Y:=hid (l.below S);clear S
    go_upto_region 12 with(first
      |((with_reducible refine ab 134 _ zeroCell (some 9) ?hgd ?ho ?hd ?_);(case hgd|ho|hd=>rfl);(intro b9 w4 W B9 e9 z9))
      |((with_reducible refine aa 134 (.tmp 9) (.tmp 43) b9 dL (aw.cells ⟨0,0,0,false,⟨#[]⟩⟩) 134 B9 rfl bB (dj _) ?hgd ?ho ?hx ?hy ?_);(case hgd|ho|hx|hy=>rfl);(intro w5 B5 o5))
      |fail)
    have p:Below w3.heap.size w3 w5:=o5.below (e9.mono W) W;have B:=hid B5;have m:=hid (Y.below p);have H5:=hid m.at';have c0:=B.cell (i:=0) rfl;clear B9 e9 z9 W B5 o5 p;go_wp2_with fail;go_roundw
    case rel=>exact⟨k+1,by omega,by go_num,c,rfl,by omega,hid ⟨d,m.out,u.mono (Nat.le_succ k),uT D.out HX.out rfl,O.out,a4.out⟩⟩
    case measure=>simp[intOf];omega
   |cell y=>
    refine(kU {i with sv:=sv} {v1 with d:=d} k (.cell y) _ l.at' (g.out d k (by omega) u.out) (by show(k:Int)<v1.used;rw[Z.out];exact T) bi.out).mono ?_
    rintro e w3 ⟨he,S⟩;obtain rfl:e= .returned (.tuple #[.agg y.cells.toArray, .int .i64 0]):=he;have Y:=hid (l.below S);clear S;have HY:=hid (show iq {v1 with d:=d} k y from bi.out);obtain⟨ye,V⟩:∃ye,y.epoch=ye:=⟨_,rfl⟩;have b7:=hid V
    by_cases I:ye=ep
    ·have db:(ye==ep)=true:=beq_iff_eq.2 I
     have M:=hid (show y.epoch=ep by rw[b7.out];exact I);clear I
     go_upto_region 12 with(first
       |((with_reducible refine ab 134 _ zeroCell (some 9) ?hgd ?ho ?hd ?_);(case hgd|ho|hd=>rfl);(intro b9 w4 W B9 e9 z9))
       |((with_reducible refine aa 134 (.tmp 9) (.tmp 43) b9 dL (y.cells) 134 B9 rfl bB (dj _) ?hgd ?ho ?hx ?hy ?_);(case hgd|ho|hx|hy=>rfl);(intro w5 B5 o5))
       |fail)
     have p:Below w3.heap.size w3 w5:=o5.below (e9.mono W) W;have B:=hid B5;have m:=hid (Y.below p);have H5:=hid m.at';have c0:=B.cell (i:=0) rfl;clear B9 e9 z9 W B5 o5 p;rw[V]at c0;clear V
     go_wp2_with (first
       |((with_reducible refine al 134 (.tmp 9) b9 (y.cells) 134 _ B.out underlying134 rfl bB ?hgd ?ho ?hx ?_);(case hgd|ho|hx=>rfl))
       |fail)
     refine(GZ {i with sv:=sv} {v1 with d:=d} y _ H5.out (g.out d k (by omega) u.out) HY.ok (by show y.slot<v1.last.tail;rw[b6.out,HY.slot];exact T)).mono ?_
     rintro e w6 ⟨rfl,o,z,tz,f⟩;rw[HY.slot]at f;have a7:=hid (show aK w2 w6 {i with sv:=sv} v1 {i with sv:=sv} {v1 with d:=rR d (k:Int) o z} from m.trans f);have c3:=hid tz;clear f tz c0;go_wp2_with fail;go_roundw
     case rel=>exact⟨k+1,by omega,by go_num,c+1,by go_num,by omega,hid ⟨rR d (k:Int) o z,a7.out,u.put (i:=4+(k:Int)) (by omega) (by have:=cy.out;omega) o z,E4 D.out HX.out M.out o c3.out,fun j h0 h4=>by rw[uU,if_neg (by omega)];exact O.out j h0 h4,fun h=>by omega⟩⟩
     case measure=>simp[intOf];omega
    ·have db:(ye==ep)=false:=beq_eq_false_iff_ne.2 I
     have M:=hid (show¬y.epoch=ep by rw[b7.out];exact I);clear I
     go_upto_region 12 with(first
       |((with_reducible refine ab 134 _ zeroCell (some 9) ?hgd ?ho ?hd ?_);(case hgd|ho|hd=>rfl);(intro b9 w4 W B9 e9 z9))
       |((with_reducible refine aa 134 (.tmp 9) (.tmp 43) b9 dL (y.cells) 134 B9 rfl bB (dj _) ?hgd ?ho ?hx ?hy ?_);(case hgd|ho|hx|hy=>rfl);(intro w5 B5 o5))
       |fail)
     have p:Below w3.heap.size w3 w5:=o5.below (e9.mono W) W;have B:=hid B5;have m:=hid (Y.below p);have H5:=hid m.at';have c0:=B.cell (i:=0) rfl;clear B9 e9 z9 W B5 o5 p;rw[V]at c0;clear V;go_wp2_with fail;go_roundw
     case rel=>exact⟨k+1,by omega,by go_num,c,rfl,by omega,hid ⟨d,m.out,u.mono (Nat.le_succ k),uT D.out HX.out (if_neg M.out),O.out,a4.out⟩⟩
     case measure=>simp[intOf];omega
  ·obtain rfl:k=un:=by omega
   clear dv
   by_cases dc:c=0
   ·subst dc
    have HF:=hid (show Calm d v1.last.geo.blocks.toNat 0 from⟨u.up,u.left,u.len,u.hin,by rw[a4.out rfl];exact Nat.le_refl _⟩);go_wp2_with fail;go_ret;exact A.out _ d (H.trans l.out) (by rw[←r.out];exact HF.out) D.out O.out
   ·have dg:¬(c:Int)=0:=by omega
    have ec:((c:Int)==0)=false:=beq_eq_false_iff_ne.2 dg;have c0:=l.at'.vol.cell (i:=0) rfl;go_wp2_with fail
    refine(C3 {i with sv:=sv} {v1 with d:=d} _ l.at' (g.out d k (Nat.le_refl _) u.out)).mono ?_
    rintro e w6 ⟨rfl,f⟩;have a7:=hid (H.trans (l.trans f));clear f c0;go_wp2_with fail;go_ret;exact A.out _ d.flushed a7.out (by rw[←r.out];exact u.flushed) (yW u.out D.out) (fun j h0 h4=>by rw[eS u.out j h0];exact O.out j h0 h4)
structure AV where
 lba:Int
 epoch:Int
 data:ByteArray
inductive LE where
 |cell (x:AV) (c:aw)
 |held (s:ByteArray)
def LE.ent:LE→gP
 | .cell _ c=> .cell c
 | .held s=> .held s
def LE.ver:LE→Option AV
 | .cell x _=>some x
 | .held _=>none
structure vZ (key:ByteArray) (b:ax) (k:Nat) (x:AV) (c:aw):Prop where
 lba:c.lba=x.lba
 epoch:c.epoch=x.epoch
 slot:c.slot=(k:Int)
 gone:c.gone=b.gone x.epoch
 txt:c.gone=false→aj c.cipher (dJ x.data.data.toList (dY key.data.toList x.epoch.toNat k x.data.size))
structure cY (log:List LE) (key:ByteArray) (b:ax) (vers:List af):Prop where
 fit:∀(k:Nat) x c,log[k]?=some (.cell x c)→vZ key b k x c
 mono:∀(j k:Nat) x c y d,j≤k→log[j]?=some (.cell x c)→log[k]?=some (.cell y d)→x.epoch≤y.epoch
 vin:∀(t:Nat) (x:af),vers[t]?=some x→∃(k:Nat) (y:AV) (c:aw),x=⟨y.lba,y.epoch,(k:Int)⟩∧log[k]?=some (.cell y c)
 vall:∀(k:Nat) y c,log[k]?=some (.cell y c)→∃t:Nat,vers[t]?=some (⟨y.lba,y.epoch,(k:Int)⟩:af)
 sort:∀(i j:Nat) (a d:af),vers[i]?=some a→vers[j]?=some d→i<j→gI a d
def lY (lba fr tp:Int) (best:Option AV) (x:AV):Option AV:=
 if x.lba=lba∧fr≤x.epoch∧x.epoch≤tp∧(best.all fun y=>decide (y.epoch≤x.epoch))=true then some x else best
def jK (l:List AV) (lba fr tp:Int):Option AV:=l.foldl (lY lba fr tp) none
def mj (lba fr tp:Int) (best:Option AV) (e:LE):Option AV:=
 match e.ver with
 |some x=>lY lba fr tp best x
 |none=>best
theorem uV (log:List LE) (lba fr a:Int):jK (log.filterMap LE.ver) lba fr a=log.foldl (mj lba fr a) none:=by
 unfold jK;rw[List.foldl_filterMap];refine congrArg (fun f=>List.foldl f none log) (funext fun x=>funext fun y=> ?_);unfold mj
 cases y.ver<;>rfl
def zp (lba fr tp:Int) (x:AV):Prop:=x.lba=lba∧fr≤x.epoch∧x.epoch≤tp
structure E7 (log:List LE) (lba fr tp:Int) (k:Nat) (q:Option AV):Prop where
 no:q=none→∀(j:Nat) x c,j<k→log[j]?=some (.cell x c)→¬zp lba fr tp x
 yes:∀x,q=some x→∃(j:Nat) (c:aw),j<k∧log[j]?=some (.cell x c)∧zp lba fr tp x∧∀(i:Nat) y d,j<i→i<k→log[i]?=some (.cell y d)→¬zp lba fr tp y
theorem nX {log:List LE} (B:∀(j k:Nat) x c y d,j≤k→log[j]?=some (.cell x c)→log[k]?=some (.cell y d)→x.epoch≤y.epoch) (lba fr b:Int):∀k,k≤log.length→E7 log lba fr b k ((log.take k).foldl (mj lba fr b) none)
 |0,_=>⟨fun _ j x c A=>(by omega),fun x h=>(by cases h)⟩
 |k+1,h=>by
  have ih:=nX B lba fr b k (by omega);have f:log[k]?=some log[k]:=List.getElem?_eq_getElem (by omega);rw[List.take_succ_eq_append_getElem (by omega),List.foldl_append]
  generalize(log.take k).foldl (mj lba fr b) none=q at ih
  show E7 log lba fr b (k+1) (mj lba fr b q log[k])
  unfold mj
  cases he:log[k]with
  |held s=>
   rw[he]at f
   show E7 log lba fr b (k+1) q
   exact⟨fun e j x c A a=>(by
    by_cases l:j=k
    ·subst l;rw[f]at a;cases a
    ·exact ih.no e j x c (by omega) a),fun x e=>by
    obtain⟨j,c,w,n,r,t⟩:=ih.yes x e
    exact⟨j,c,by omega,n,r,fun i y d u p hy=>by
     by_cases g:i=k
     ·subst g;rw[f]at hy;cases hy
     ·exact t i y d u (by omega) hy⟩⟩
  |cell z cz=>
   rw[he]at f
   show E7 log lba fr b (k+1) (lY lba fr b q z)
   unfold lY
   by_cases m:zp lba fr b z
   ·have o:(q.all fun y=>decide (y.epoch≤z.epoch))=true:=by
     cases q with
     |none=>rfl
     |some y=>
      obtain⟨j,c,w,n,r,t⟩:=ih.yes y rfl;simp only[Option.all_some,decide_eq_true_eq];exact B j k y c z cz (by omega) n f
    rw[if_pos ⟨m.1,m.2.1,m.2.2,o⟩]
    exact⟨fun e=>(by cases e),fun x a=>by
     injection a with a
     subst a;exact⟨k,cz,by omega,f,m,fun i y d u p _=>by omega⟩⟩
   ·rw[if_neg (fun v=>m ⟨v.1,v.2.1,v.2.2.1⟩)]
    exact⟨fun e j x c A a=>(by
     by_cases l:j=k
     ·subst l;rw[f]at a;injection a with a;injection a with a;subst a;exact m
     ·exact ih.no e j x c (by omega) a),fun x e=>by
     obtain⟨j,c,w,n,r,t⟩:=ih.yes x e
     exact⟨j,c,by omega,n,r,fun i y d u p hy=>by
      by_cases g:i=k
      ·subst g;rw[f]at hy;injection hy with hy;injection hy with hy;subst hy;exact m
      ·exact t i y d u (by omega) hy⟩⟩
theorem tB {log:List LE} {key:ByteArray} {b:ax} {c:List af} (h:cY log key b c) (lba ep:Int):∀(i j:Nat) (a d:af),c[i]?=some a→c[j]?=some d→i≤j→cV lba ep d→cV lba ep a:=by
 intro i j a d g hd l f
 by_cases e:i=j
 ·subst e;rw[g]at hd;injection hd with hd;subst hd;exact f
 ·have k:=h.sort i j a d g hd (by omega)
  unfold gI at k;unfold cV at f ⊢;omega
theorem Dt {log:List LE} {key:ByteArray} {b:ax} {a:List af} (h:cY log key b a) {lba fr ep:Int} (n:∀(k:Nat) x c,log[k]?=some (.cell x c)→fr≤x.epoch) {m:Nat} (o:dM a lba ep m):
  (bQ a lba m=none∧jK (log.filterMap LE.ver) lba fr ep=none)∨
   ∃(k:Nat) (x:AV) (c:aw),log[k]?=some (.cell x c)∧bQ a lba m=some ⟨lba,x.epoch,(k:Int)⟩∧jK (log.filterMap LE.ver) lba fr ep=some x∧x.lba=lba∧x.epoch≤ep:=by
 have p:=nX h.mono lba fr ep log.length (Nat.le_refl _);rw[List.take_of_length_le (Nat.le_refl _),←uV]at p
 generalize jK (log.filterMap LE.ver) lba fr ep=q at p
 cases q with
 |none=>
  left
  refine⟨?_,rfl⟩;unfold bQ
  split
  ·rfl
  ·rename_i D
   have hl:m-1<a.length:=by have:=o.le;omega
   rw[List.getElem?_eq_getElem hl]
   show(if(a[m-1]).lba=lba then some a[m-1]else none)=none
   rw[if_neg];intro j;obtain⟨k,y,c,G,g⟩:=h.vin (m-1) _ (List.getElem?_eq_getElem hl);have e:=o.ahead (m-1) _ (List.getElem?_eq_getElem hl) (by omega);rw[G]at j e;unfold cV at e;simp only at j e;exact p.no rfl k y c (List.getElem?_eq_some_iff.1 g).1 g ⟨j,n k y c g,by omega⟩
 |some x=>
  right
  obtain⟨k,c,C,g,⟨s,I,A⟩,i⟩:=p.yes x rfl;refine⟨k,x,c,g, ?_,rfl,s,A⟩;obtain⟨t,r⟩:=h.vall k x c g;have E:=(List.getElem?_eq_some_iff.1 r).1;have e:cV lba ep (⟨x.lba,x.epoch,(k:Int)⟩:af):= .inr ⟨s,A⟩;have F:t<m:=Nat.lt_of_not_le (fun B=>o.behind t _ r B e)
  have l:t=m-1:=by
   by_cases z:t=m-1
   ·exact z
   ·exfalso
    have hl:m-1<a.length:=by have:=o.le;omega
    obtain⟨k',y,d,hy,f⟩:=h.vin (m-1) _ (List.getElem?_eq_getElem hl);have u:=h.sort t (m-1) _ _ r (List.getElem?_eq_getElem hl) (by omega);have v:=o.ahead (m-1) _ (List.getElem?_eq_getElem hl) (by omega);rw[hy]at u v;unfold gI at u;unfold cV at v;simp only at u v
    have w:k<k':=by
     rcases Nat.lt_or_ge k k' with h3|h3
     ·exact h3
     ·have H:=h.mono k' k y d x c h3 f g
      omega
    exact i k' y d w (List.getElem?_eq_some_iff.1 f).1 f ⟨by omega,n k' y d f,by omega⟩
  unfold bQ;rw[if_neg (by omega),←l,r]
  show(if x.lba=lba then some (⟨x.lba,x.epoch,(k:Int)⟩:af)else none)= _
  rw[if_pos s,s]
def jA (P:Nat→Bool):Nat→Nat
 |0=>0
 |n+1=>jA P n+(if P n=true then 1 else 0)
theorem nv {P Q:Nat→Bool}:∀n,(∀k,k<n→P k=Q k)→jA P n=jA Q n
 |0,_=>rfl
 |n+1,h=>by unfold jA;rw[nv n (fun k a=>h k (by omega)),h n (by omega)]
theorem tC {P Q:Nat→Bool} {a:Nat} (hp:P a=false) (c:Q a=true):∀n,(∀k,k<n→k≠a→P k=Q k)→a<n→jA Q n=jA P n+1
 |0,_,h=>by omega
 |n+1,h,ha=>by
  unfold jA
  by_cases hn:n=a
  ·subst hn
   rw[hp,c,nv n (fun k d=>(h k (by omega) (by omega)).symm)];simp
  ·rw[tC hp c n (fun k d b=>h k (by omega) b) (by omega),h n (by omega) hn]
   omega
def pJ (vers:List af) (t k:Nat):Bool:=(vers.take t).any fun x=>decide (x.lba=(k:Int))
theorem kA {a:List af} {t k:Nat}:pJ a t k=true↔∃(i:Nat) (x:af),i<t∧a[i]?=some x∧x.lba=(k:Int):=by
 unfold pJ;rw[List.any_eq_true]
 constructor
 ·rintro⟨x,c,hd⟩
  obtain⟨i,b⟩:=List.mem_iff_getElem?.1 c;rw[List.getElem?_take]at b
  split at b
  ·exact⟨i,x,by assumption,b,by simpa using hd⟩
  ·cases b
 ·rintro⟨i,x,b,c,hd⟩
  refine⟨x,List.mem_iff_getElem?.2 ⟨i, ?_⟩,by simpa using hd⟩;rw[List.getElem?_take,if_pos b,c]
theorem uW {b:List af} {n:Nat} (y:∀(i j:Nat) (a d:af),b[i]?=some a→b[j]?=some d→i<j→gI a d) (hb:∀(i:Nat) (x:af),b[i]?=some x→0≤x.lba∧x.lba<(n:Int)):
  ∀t,t≤b.length→(df (b.take t)).1=jA (pJ b t) n∧(df (b.take t)).2=(match t with|0=>-1|s+1=>((b[s]?).map af.lba).getD (-1))
 |0,_=>⟨by
   have:∀m,jA (pJ b 0) m=0:=fun m=>by
    induction m with
    |zero=>rfl
    |succ m ih=>unfold jA;rw[ih];simp[pJ]
   rw[this];rfl,rfl⟩
 |t+1,h=>by
  obtain⟨z,q⟩:=uW y hb t (by omega);have o:b[t]?=some b[t]:=List.getElem?_eq_getElem (by omega);obtain⟨F,G⟩:=hb t _ o;rw[qV o];unfold j5;refine⟨?_,by simp only[o];rfl⟩
  show(if b[t].lba=(df (b.take t)).2 then(df (b.take t)).1 else(df (b.take t)).1+1)= _
  obtain⟨a,r⟩:∃a:Nat,b[t].lba=(a:Int):=⟨b[t].lba.toNat,by omega⟩
  have g:∀k,k≠a→pJ b t k=pJ b (t+1) k:=by
   intro k p;rw[Bool.eq_iff_iff,kA,kA]
   constructor
   ·rintro⟨i,x,A,c,hd⟩
    exact⟨i,x,by omega,c,hd⟩
   ·rintro⟨i,x,A,c,hd⟩
    by_cases v:i=t
    ·subst v
     rw[o]at c
     injection c with c
     subst c;exact absurd (show(k:Int)=a by omega) (by omega)
    ·exact⟨i,x,by omega,c,hd⟩
  have l:pJ b (t+1) a=true:=kA.2 ⟨t,_,by omega,o,r⟩
  by_cases f:b[t].lba=(df (b.take t)).2
  ·rw[if_pos f,z]
   refine nv n (fun k _=> ?_)
   by_cases p:k=a
   ·subst p
    rw[l]
    cases t with
    |zero=>rw[q]at f;simp only at f;omega
    |succ s=>
     have e:b[s]?=some b[s]:=List.getElem?_eq_getElem (by omega);rw[q]at f;simp only[e]at f;exact kA.2 ⟨s,_,by omega,e,f.symm.trans r⟩
   ·exact g k p
  ·rw[if_neg f,z]
   have w:pJ b t a=false:=by
    rw[Bool.eq_false_iff];intro C;obtain⟨i,x,A,c,hd⟩:=kA.1 C
    cases t with
    |zero=>omega
    |succ s=>
     have e:b[s]?=some b[s]:=List.getElem?_eq_getElem (by omega);rw[q]at f;simp only[e]at f;have D:=y s (s+1) _ _ e o (by omega);unfold gI at D
     by_cases u:i=s
     ·subst u
      rw[e]at c
      injection c with c
      exact f (r.trans (by rw[c];exact hd.symm))
     ·have E:=y i s _ _ c e (by omega)
      unfold gI at E;have B:¬b[s+1].lba=b[s].lba:=f;omega
   rw[tC w l n (fun k _ p=>g k p) (by omega)]
def wu (l:List AV) (lbas:Int) (fr:Int):Nat:=jA (fun k=>(jK l (k:Int) fr 4294967295).isSome) lbas.toNat
theorem Du {log:List LE} {key:ByteArray} {b:ax} {d:List af} (h:cY log key b d) {fr e:Int} (hl:∀(k:Nat) x c,log[k]?=some (.cell x c)→fr≤x.epoch∧x.epoch≤4294967295∧0≤x.lba∧x.lba<e):
  (df d).1=wu (log.filterMap LE.ver) e fr:=by
 have hb:∀(i:Nat) (x:af),d[i]?=some x→0≤x.lba∧x.lba<((e.toNat:Nat):Int):=fun i x l=>by
  obtain⟨k,y,c,j,f⟩:=h.vin i x l
  have:=hl k y c f
  rw[j]
  show 0≤y.lba∧y.lba<_
  omega
 have m:=(uW h.sort hb d.length (Nat.le_refl _)).1;rw[List.take_of_length_le (Nat.le_refl _)]at m;rw[m];unfold wu;refine nv _ (fun a w=> ?_);have g:=nX h.mono (a:Int) fr 4294967295 log.length (Nat.le_refl _);rw[List.take_of_length_le (Nat.le_refl _),←uV]at g;rw[Bool.eq_iff_iff,kA]
 generalize jK (log.filterMap LE.ver) (a:Int) fr 4294967295=q at g
 constructor
 ·rintro⟨i,x,A,l,hd⟩
  obtain⟨k,y,c,j,f⟩:=h.vin i x l;have n:=hl k y c f
  cases q with
  |some z=>rfl
  |none=>
   exact absurd ⟨by rw[j]at hd;exact hd,n.1,n.2.1⟩ (g.no rfl k y c (List.getElem?_eq_some_iff.1 f).1 f)
 ·intro s
  cases q with
  |none=>cases s
  |some z=>
   obtain⟨k,c,u,p,r,v⟩:=g.yes z rfl;obtain⟨t,o⟩:=h.vall k z c p;exact⟨t,_,(List.getElem?_eq_some_iff.1 o).1,o,r.1⟩
theorem AC {α:Type} (p:α→Bool):∀(l:List α) (t:Nat) (x:α),l[t]?=some x→t<(l.takeWhile p).length→p x=true
 |[],t,x,h,_=>by simp at h
 |a::r,t,x,h,ht=>by
  rw[List.takeWhile_cons]at ht
  by_cases hp:p a=true
  ·rw[if_pos hp]at ht
   cases t with
   |zero=>simp at h;subst h;exact hp
   |succ t=>exact AC p r t x (by simpa using h) (by simpa using ht)
  ·rw[if_neg hp]at ht
   simp at ht
theorem AD {α:Type} (p:α→Bool):∀(l:List α) (x:α),l[(l.takeWhile p).length]?=some x→p x=false
 |[],x,h=>by simp at h
 |a::r,x,h=>by
  rw[List.takeWhile_cons]at h
  by_cases hp:p a=true
  ·rw[if_pos hp]at h
   exact AD p r x (by simpa using h)
  ·rw[if_neg hp]at h
   simp at h;subst h
   simpa using hp
theorem re {a b c:af} (h:gI a b) (k:gI b c):gI a c:=by unfold gI at h k ⊢;omega
theorem K5 {a b:af} (h:¬gI a b) (c:a≠b):gI b a:=by
 have:¬(a.lba=b.lba∧a.epoch=b.epoch∧a.slot=b.slot):=fun⟨h1,h2,h3⟩=>c (by cases a;cases b;simp only at h1 h2 h3;subst h1 h2 h3;rfl)
 unfold gI at h ⊢;omega
theorem G0 {l:List af} {v:af} (h:l.Pairwise gI) (g:∀x∈l,x≠v):(fV l v).Pairwise gI:=by
 have s:∀(t:Nat) (x:af),l[t]?=some x→t<jj v l→gI x v:=fun t x c r=>by
  have:=AC _ l t x c r
  simp only[decide_eq_true_eq]at this;exact oZ.1 this
 have p:∀(t:Nat) (x:af),l[t]?=some x→jj v l≤t→gI v x:=fun t x c r=>by
  have k:=(List.getElem?_eq_some_iff.1 c).1;have hp:l[jj v l]?=some l[jj v l]:=List.getElem?_eq_getElem (by omega)
  have e:¬gI l[jj v l] v:=fun hl=>by
   have:=AD _ l _ hp
   simp only[decide_eq_false_iff_not]at this;exact this (oZ.2 hl)
  have n:gI v l[jj v l]:=K5 e (g _ (List.getElem_mem _))
  by_cases w:jj v l=t
  ·subst w
   rw[hp]at c
   injection c with c
   rw[←c];exact n
  ·have o:=List.pairwise_iff_getElem.1 h (jj v l) t (by omega) k (by omega)
   obtain⟨_,m⟩:=List.getElem?_eq_some_iff.1 c;rw[m]at o;exact re n o
 unfold fV;rw[List.pairwise_append];refine⟨h.sublist (List.take_sublist _ _), ?_, ?_⟩
 ·rw[List.pairwise_cons]
  refine⟨fun x c=> ?_,h.sublist (List.drop_sublist _ _)⟩;obtain⟨i,d⟩:=List.mem_iff_getElem?.1 c;rw[List.getElem?_drop]at d;exact p _ x d (by omega)
 ·intro a u b hb
  obtain⟨i,d⟩:=List.mem_iff_getElem?.1 u;rw[List.getElem?_take]at d
  split at d
  ·rename_i f
   have e:=s i a d f
   rcases List.mem_cons.1 hb with rfl|hb
   ·exact e
   ·obtain⟨j,q⟩:=List.mem_iff_getElem?.1 hb
    rw[List.getElem?_drop]at q;exact re e (p _ b q (by omega))
  ·cases d
theorem AE {l:List af} {v x:af}:x∈fV l v↔x=v∨x∈l:=by
 unfold fV;rw[List.mem_append,List.mem_cons]
 constructor
 ·rintro(h|h|h)
  ·exact .inr (List.mem_of_mem_take h)
  ·exact .inl h
  ·exact .inr (List.mem_of_mem_drop h)
 ·rintro(h|h)
  ·exact .inr (.inl h)
  ·rw[←List.take_append_drop (jj v l) l]at h
   rcases List.mem_append.1 h with h|h
   ·exact .inl h
   ·exact .inr (.inr h)
theorem cY.pair {log:List LE} {key:ByteArray} {b:ax} {a:List af} (h:cY log key b a):a.Pairwise gI:=
 List.pairwise_iff_getElem.2 (fun i j d e c=>h.sort i j _ _ (List.getElem?_eq_getElem d) (List.getElem?_eq_getElem e) c)
theorem cY.asks {log:List LE} {key:ByteArray} {b:ax} {e:List af} (h:cY log key b e) (lba ep:Int):
  (∀(i j:Nat) (a d:af),e[i]?=some a→e[j]?=some d→i≤j→dr d ⟨lba,ep,(log.length:Int)⟩<0→dr a ⟨lba,ep,(log.length:Int)⟩<0)∧∀(t:Nat) (x:af),e[t]?=some x→dr x ⟨lba,ep,(log.length:Int)⟩≠0:=by
 refine⟨fun i j a d n hd o g=> ?_,fun t x r f=> ?_⟩
 ·by_cases m:i=j
  ·subst m;rw[n]at hd;injection hd with hd;subst hd;exact g
  ·exact oZ.2 (re (h.sort i j a d n hd (by omega)) (oZ.1 g))
 ·obtain⟨k,y,c,m,p⟩:=h.vin t x r
  have q:=(List.getElem?_eq_some_iff.1 p).1;rw[m]at f;unfold dr at f;simp only at f
  split at f
  ·rename_i l;exact l f
  ·split at f
   ·rename_i l;exact l f
   ·have:=qu.1 f
    omega
theorem cY.write {log:List LE} {key:ByteArray} {b:ax} {m:List af} (h:cY log key b m) {x:AV} {c:aw} (H:vZ key b log.length x c) (G:∀(k:Nat) y d,log[k]?=some (.cell y d)→y.epoch≤x.epoch):
  cY (log++[.cell x c]) key b (fV m ⟨x.lba,x.epoch,(log.length:Int)⟩):=by
 have l:∀(k:Nat) y d,(log++[LE.cell x c])[k]?=some (LE.cell y d)→(k<log.length∧log[k]?=some (LE.cell y d))∨(k=log.length∧y=x∧d=c):=by
  intro k y d f
  by_cases p:k<log.length
  ·rw[List.getElem?_append_left p]at f
   exact .inl ⟨p,f⟩
  ·have B:k=log.length:=by have:=(List.getElem?_eq_some_iff.1 f).1;simp at this;omega
   subst B;rw[List.getElem?_append_right (Nat.le_refl _)]at f;simp at f;exact .inr ⟨rfl,f.1.symm,f.2.symm⟩
 have r:∀(k:Nat) e,log[k]?=some e→(log++[LE.cell x c])[k]?=some e:=fun k e f=>by
  rw[List.getElem?_append_left (List.getElem?_eq_some_iff.1 f).1];exact f
 have q:(log++[LE.cell x c])[log.length]?=some (LE.cell x c):=by rw[List.getElem?_append_right (Nat.le_refl _)];simp
 have o:∀z∈m,z≠(⟨x.lba,x.epoch,(log.length:Int)⟩:af):=fun z D u=>by
  obtain⟨t,C⟩:=List.mem_iff_getElem?.1 D;obtain⟨k,y,d,hy,f⟩:=h.vin t z C;have p:=(List.getElem?_eq_some_iff.1 f).1;rw[hy]at u
  injection u with _ _ E
  omega
 have hp:=G0 h.pair o;refine⟨fun k y d f=> ?_,fun j k y d z e A v f=> ?_,fun t z D=> ?_,fun k y d f=> ?_,fun i j a d F hd w=> ?_⟩
 ·rcases l k y d f with⟨_,g⟩|⟨rfl,rfl,rfl⟩
  ·exact h.fit k y d g
  ·exact H
 ·rcases l k z e f with⟨h0,g⟩|⟨rfl,rfl,rfl⟩
  ·rcases l j y d v with⟨_,n⟩|⟨n,_,_⟩
   ·exact h.mono j k y d z e A n g
   ·omega
  ·rcases l j y d v with⟨_,n⟩|⟨_,n,_⟩
   ·exact G j y d n
   ·rw[n];exact Int.le_refl _
 ·rcases AE.1 (List.mem_iff_getElem?.2 ⟨t,D⟩)with g|g
  ·exact⟨log.length,x,c,g,q⟩
  ·obtain⟨s,J⟩:=List.mem_iff_getElem?.1 g
   obtain⟨k,y,d,n,E⟩:=h.vin s z J;exact⟨k,y,d,n,r k _ E⟩
 ·refine List.mem_iff_getElem?.1 (AE.2 ?_)
  rcases l k y d f with⟨_,g⟩|⟨rfl,rfl,rfl⟩
  ·obtain⟨t,C⟩:=h.vall k y d g
   exact .inr (List.mem_iff_getElem?.2 ⟨t,C⟩)
  ·exact .inl rfl
 ·obtain⟨I,g⟩:=List.getElem?_eq_some_iff.1 F
  obtain⟨v,n⟩:=List.getElem?_eq_some_iff.1 hd
  have:=List.pairwise_iff_getElem.1 hp i j I v w
  rw[g,n]at this;exact this
theorem cY.record {log:List LE} {key:ByteArray} {b b':ax} {vers:List af} (h:cY log key b vers) (hb:b'.gone=b.gone) (s:ByteArray):cY (log++[.held s]) key b' vers:=by
 have c:∀(k:Nat) y d,(log++[LE.held s])[k]?=some (LE.cell y d)→log[k]?=some (LE.cell y d):=by
  intro k y d a
  by_cases i:k<log.length
  ·rw[List.getElem?_append_left i]at a
   exact a
  ·have g:k=log.length:=by have:=(List.getElem?_eq_some_iff.1 a).1;simp at this;omega
   subst g;rw[List.getElem?_append_right (Nat.le_refl _)]at a;simp at a
 exact⟨fun k y d a=>(by obtain⟨m,n,o,p,q⟩:=h.fit k y d (c k y d a);exact⟨m,n,o,by rw[hb];exact p,q⟩),fun j k y d z e f u a=>h.mono j k y d z e f (c j y d u) (c k z e a),
  fun t z v=>(by obtain⟨k,y,d,r,l⟩:=h.vin t z v;exact⟨k,y,d,r,by rw[List.getElem?_append_left (List.getElem?_eq_some_iff.1 l).1];exact l⟩),fun k y d a=>h.vall k y d (c k y d a),h.sort⟩
def eM (ep:Int):LE→LE
 | .cell x c=>if c.epoch=ep then .cell x (iI c)else .cell x c
 | .held s=> .held s
theorem G1 (ep:Int) (e:LE):(eM ep e).ent=rP ep e.ent:=by
 cases e with
 |held s=>rfl
 |cell x c=>
  by_cases a:c.epoch=ep
  ·rw[show eM ep (.cell x c)= .cell x (iI c)from if_pos a]
   exact(if_pos a).symm
  ·rw[show eM ep (.cell x c)= .cell x c from if_neg a]
   exact(if_neg a).symm
theorem G2 (ep:Int) (e:LE):(eM ep e).ver=e.ver:=by
 cases e with
 |held s=>rfl
 |cell x c=>
  by_cases a:c.epoch=ep
  ·rw[show eM ep (.cell x c)= .cell x (iI c)from if_pos a]
   rfl
  ·rw[show eM ep (.cell x c)= .cell x c from if_neg a]
theorem cY.purge {log:List LE} {key:ByteArray} {b b':ax} {vers:List af} (h:cY log key b vers) (ep:Int) (hb:∀e,b'.gone e=if e=ep then true else b.gone e):cY (log.map (eM ep)) key b' vers:=by
 have l:∀(k:Nat) y d,(log.map (eM ep))[k]?=some (LE.cell y d)→∃c,log[k]?=some (LE.cell y c)∧d=if c.epoch=ep then iI c else c:=by
  intro k y d i;rw[List.getElem?_map,Option.map_eq_some_iff]at i;obtain⟨e,f,a⟩:=i
  cases e with
  |held s=>cases a
  |cell x c=>
   unfold eM at a;simp only at a
   split at a
   ·rename_i g;injection a with h4 h5;subst h4;exact⟨c,f,by rw[if_pos g,h5]⟩
   ·rename_i g;injection a with h4 h5;subst h4;exact⟨c,f,by rw[if_neg g,h5]⟩
 have o:∀(k:Nat) y c,log[k]?=some (LE.cell y c)→∃d,(log.map (eM ep))[k]?=some (LE.cell y d):=by
  intro k y c i;rw[List.getElem?_map,i]
  show ∃d,some (eM ep (.cell y c))= _
  unfold eM;simp only
  split
  ·exact⟨_,rfl⟩
  ·exact⟨_,rfl⟩
 refine⟨fun k y d i=> ?_,fun j k y d z e n A i=> ?_,fun t z B=> ?_,fun k y d i=> ?_,h.sort⟩
 ·obtain⟨c,f,a⟩:=l k y d i
  obtain⟨p,m,q,u,v⟩:=h.fit k y c f
  by_cases g:c.epoch=ep
  ·rw[if_pos g]at a
   subst a;exact⟨p,m,q,by rw[hb,if_pos (by rw[←m];exact g)];rfl,fun w=>by cases w⟩
  ·rw[if_neg g]at a
   subst a;exact⟨p,m,q,by rw[hb,if_neg (by rw[←m];exact g)];exact u,v⟩
 ·obtain⟨c,f,_⟩:=l j y d A
  obtain⟨r,a,_⟩:=l k z e i;exact h.mono j k y c z r n f a
 ·obtain⟨k,y,c,f,a⟩:=h.vin t z B
  obtain⟨d,g⟩:=o k y c a;exact⟨k,y,d,f,g⟩
 ·obtain⟨c,f,_⟩:=l k y d i
  exact h.vall k y c f
end Go.Proofs.YtadooplpfhdhcaaGreat
