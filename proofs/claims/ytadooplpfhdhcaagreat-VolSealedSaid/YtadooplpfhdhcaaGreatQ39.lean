/- An epoch of one cell: its segment (chapter 26). The states of chapter 26's example. No program in sight. Walk of chapter 26's example. Walks of chain.begin, records, beyond, and of Follow at an epoch that may not be (chapter 20). Walk of chain.sealer.next (chapter 20). -/
import Derived.Test.YtadooplpfhdhcaaGreatQ24
import Derived.Test.YtadooplpfhdhcaaGreatQ32
import Derived.Test.YtadooplpfhdhcaaGreatQ20
import Derived.Test.YtadooplpfhdhcaaGreatQ31
import Derived.Test.YtadooplpfhdhcaaGreatQ2
import Derived.Deep.QuietTactic
import Derived.BigQuiet
import Derived.Deep.RegionWith
import Derived.Deep.DeepAppendWide
import Derived.Deep.DeepCutAuto
import Derived.OneCell
import Derived.Test.YtadooplpfhdhcaaGreatQ13
import Derived.Test.YtadooplpfhdhcaaGreatQ25
import Derived.Test.YtadooplpfhdhcaaGreatShelf
import Derived.Sort.OwnSorted
import Derived.Test.YtadooplpfhdhcaaGreatQ6
import Derived.Test.YtadooplpfhdhcaaGreatQ5
import Derived.Lib.SmallJoins
import Derived.Deep.Fields
set_option linter.unusedSimpArgs false
set_option linter.unusedVariables false
set_option maxRecDepth 100000
set_option maxHeartbeats 4000000
namespace Go.Proofs.YtadooplpfhdhcaaGreat
open Go Go.RowKit Go.Maps Go.WideMaps
open Go.Lib (hid)
open Go.Proofs.Tryz
theorem JB (i:ar) (v:ak) (x:af) (c:aw) (u:bC v) (m:0≤v.epoch) (n:v.epoch≤4294967295) (q:jX v.vers v.epoch=[x]) (t:x.slot=c.slot) (k:v.vers.length≤4096)
  (o:0≤c.slot) (p:c.slot<v.used) (hc:bI c) (s:c.gone=false) (b:0≤c.lba) (f:c.lba<4096) (hb:aj (v.d.shown (4+c.slot)) (cellL c)):EG i v 1 (uB v.epoch c):=by
 refine⟨by decide,by decide,qJ _ _,fun w a=>∃B,dR w a B 1 v.epoch (tf v.epoch c 1),fun h l=> ?_, ?_, ?_⟩
 ·refine(vR i v v.epoch x c h l u m n q t k o p hc s b f hb).mono ?_
  rintro e y ⟨⟨a,B,r,g⟩,j⟩;exact⟨⟨a,r,B,g⟩,j⟩
 ·rintro h a ⟨B,g⟩
  exact vS a B v.epoch c h g
 ·rintro h a ⟨B,g⟩
  exact yL a B v.epoch c h g b f
theorem ym (n:Nat) (v:Value) (i:Nat) (kb q:ByteArray):Calm (bP n v i kb q) n 0:=
 ⟨rfl,rfl,by show(((List.replicate n cE).set i kb).set 1 q).length=n;simp,fun j p a=>by simp[bP]at a,Nat.le_refl _⟩
def jh (key data kb q:ByteArray) (vv:Value):ak:=cJ key data 1 0 12 4 0 0 (bP 12 vv 2 kb q)
theorem LY (key a kb q:ByteArray) (b:Value):bC (jh key a kb q b):=by
 refine⟨⟨⟨?_, ?_, ?_, ?_, ?_, ?_⟩, ?_, ?_, ?_, ?_, ?_, ?_, ?_, ?_⟩, ?_, ?_,ym 12 b 2 kb q⟩<;>simp[jh,cJ]
def eP (key data kb q:ByteArray) (vv:Value) (b1:ByteArray) (c1:Value):ak:=dK (jh key data kb q vv) 1 b1 c1
theorem tM (key a kb q:ByteArray) (e:Value) (b:ByteArray) (c:Value):Calm (eP key a kb q e b c).d 12 1:=
 (ym 12 e 2 kb q).put (i:=4+0) (by decide) (by decide) c b
theorem Io (key a kb q:ByteArray) (d:Value) (b:ByteArray) (c:Value):bC (eP key a kb q d b c):=by
 refine⟨⟨⟨?_, ?_, ?_, ?_, ?_, ?_⟩, ?_, ?_, ?_, ?_, ?_, ?_, ?_, ?_⟩, ?_, ?_,tM key a kb q d b c⟩<;>simp[eP,jh,cJ,dK]
theorem yn (key a kb q:ByteArray) (c:Value) (b1:ByteArray) (b:Value):(eP key a kb q c b1 b).d.shown (4+0)=b1:=by
 exact(fg (bP 12 c 2 kb q) b (4+0) (4+0) b1).trans (if_pos rfl)
theorem Ip (key a kb q:ByteArray) (d:Value) (b:ByteArray) (c:Value) (e:key.size=32):oH (eP key a kb q d b c):=by
 refine⟨Io key a kb q d b c,e, ?_, ?_, ?_, ?_,(show jE []from fun j x f=>by simp at f),rfl, ?_, ?_, ?_, ?_, ?_, ?_⟩<;>simp[eP,jh,cJ,dK]
theorem Le (i:ar) (key a kb q:ByteArray) (e:Value) (c b:ByteArray) (d:Value) (hc:bI ⟨0,0,1,false,b⟩) (hb:aj c (cellL ⟨0,0,1,false,b⟩)):
  EG i (eP key a kb q e c d) 1 (uB 0 ⟨0,0,1,false,b⟩):=
 JB i (eP key a kb q e c d) ⟨1,0,0⟩ ⟨0,0,1,false,b⟩ (Io key a kb q e c d) (by simp[eP,jh,cJ,dK]) (by simp[eP,jh,cJ,dK]) (by simp[eP,jh,cJ,dK,jX]) rfl (by simp[eP,jh,cJ,dK]) (show(0:Int)≤0 by decide) (by simp[eP,jh,cJ,dK]) hc rfl (show(0:Int)≤1 by decide) (show(1:Int)<4096 by decide) (yn key a kb q e c d ▸ hb)
def mS (key data kb q:ByteArray) (vv:Value) (b1:ByteArray) (c1:Value) (s t bl nk kb2 q2 nb:ByteArray):ak:=
 {eP key data kb q vv b1 c1 with used:=(eP key data kb q vv b1 c1).used+1,last:=ft (eP key data kb q vv b1 c1) (eP key data kb q vv b1 c1).clock,d:=fK (eP key data kb q vv b1 c1) bl kb2 q2 nb,key:=nk,sealed:=(eP key data kb q vv b1 c1).sealed++[⟨aM (eP key data kb q vv b1 c1) 1 s,t⟩],epoch:=(eP key data kb q vv b1 c1).epoch+1,now:=(eP key data kb q vv b1 c1).clock}
theorem A4 (key a kb q:ByteArray) (h:Value) (c:ByteArray) (f:Value) (s t e i b g nb:ByteArray):Calm (mS key a kb q h c f s t e i b g nb).d 12 0:=
 oN (tM key a kb q h c f) (by simp[eP,jh,cJ,dK]) (by simp[eP,jh,cJ,dK]) (by decide) e b g nb
theorem LZ (key a kb q:ByteArray) (h:Value) (c:ByteArray) (e:Value) (s t d f b g nb:ByteArray):bC (mS key a kb q h c e s t d f b g nb):=by
 refine⟨⟨⟨?_, ?_, ?_, ?_, ?_, ?_⟩, ?_, ?_, ?_, ?_, ?_, ?_, ?_, ?_⟩, ?_, ?_,(A4 key a kb q h c e s t d f b g nb).mono (Nat.zero_le _)⟩<;>simp[mS,eP,jh,cJ,dK,ft]
theorem Iq (key a kb q:ByteArray) (e:Value) (b1:ByteArray) (c:Value) (s t f h b g nb:ByteArray):(mS key a kb q e b1 c s t f h b g nb).d.shown (4+0)=b1:=by
 refine(nz (tM key a kb q e b1 c) (by simp[eP,jh,cJ,dK]) (by simp[eP,jh,cJ,dK]) (by decide) f b g nb (4+0) (by decide)).trans ?_
 rw[if_neg (by simp[eP,jh,cJ,dK])];exact yn key a kb q e b1 c
def sG (key data kb q:ByteArray) (vv:Value) (b1:ByteArray) (c1:Value) (s t bl nk kb2 q2 nb b2:ByteArray) (c2:Value):ak:=dK (mS key data kb q vv b1 c1 s t bl nk kb2 q2 nb) 1 b2 c2
theorem JC (key a kb q:ByteArray) (l:Value) (c:ByteArray) (g:Value) (s t f j b k nb e:ByteArray) (h:Value):Calm (sG key a kb q l c g s t f j b k nb e h).d 12 1:=
 (A4 key a kb q l c g s t f j b k nb).put (i:=4+(0+1+1)) (by decide) (by decide) h e
theorem Ir (key a kb q:ByteArray) (j:Value) (c:ByteArray) (f:Value) (s t e h b i nb d:ByteArray) (g:Value):bC (sG key a kb q j c f s t e h b i nb d g):=by
 refine⟨⟨⟨?_, ?_, ?_, ?_, ?_, ?_⟩, ?_, ?_, ?_, ?_, ?_, ?_, ?_, ?_⟩, ?_, ?_,(JC key a kb q j c f s t e h b i nb d g).mono (by simp[sG,mS,eP,jh,cJ,dK])⟩<;>simp[sG,mS,eP,jh,cJ,dK,ft]
theorem FD (key a kb q:ByteArray) (h:Value) (b1:ByteArray) (e:Value) (s t c f b g nb i:ByteArray) (j:Value):(sG key a kb q h b1 e s t c f b g nb i j).d.shown (4+0)=b1:=
 (fg (mS key a kb q h b1 e s t c f b g nb).d j (4+(0+1+1)) (4+0) i).trans ((if_neg (by decide)).trans (Iq key a kb q h b1 e s t c f b g nb))
theorem FG (key a kb q:ByteArray) (j:Value) (c:ByteArray) (f:Value) (s t e h b i nb b2:ByteArray) (g:Value):(sG key a kb q j c f s t e h b i nb b2 g).d.shown (4+2)=b2:=
 (fg (mS key a kb q j c f s t e h b i nb).d g (4+(0+1+1)) (4+2) b2).trans (if_pos (by decide))
theorem L0 (key a kb q:ByteArray) (i:Value) (c:ByteArray) (e:Value) (s t d f b g nb:ByteArray) (k:Nat) (x:af) (j:(mS key a kb q i c e s t d f b g nb).vers[k]?=some x):dr x ⟨1,(mS key a kb q i c e s t d f b g nb).epoch,(mS key a kb q i c e s t d f b g nb).used⟩<0:=by
 have h:([⟨1,0,0⟩]:List af)[k]?=some x:=j
 match k,h with
 |0,h=>obtain rfl:=Option.some.inj h;show dr ⟨1,0,0⟩ ⟨1,0+1,0+1+1⟩<0;decide
 |k+1,h=>simp at h
theorem pV {k:Nat} {x:af} (h:([⟨1,0,0⟩,⟨1,1,2⟩]:List af)[k]?=some x):(k=0∧x=⟨1,0,0⟩)∨(k=1∧x=⟨1,1,2⟩):=by
 match k,h with
 |0,h=>exact .inl ⟨rfl,(Option.some.inj h).symm⟩
 |1,h=>exact .inr ⟨rfl,(Option.some.inj h).symm⟩
 |k+2,h=>simp at h
theorem FH:mE [⟨1,0,0⟩,⟨1,1,2⟩] 1 0 ⟨1,0,0⟩:=by
 refine⟨⟨0,⟨by decide,fun t x d g=> ?_,fun t x d g=> ?_⟩,rfl⟩,rfl,fun i j a b e hb f c=> ?_⟩
 ·rcases pV d with⟨rfl,rfl⟩|⟨rfl,rfl⟩
  ·decide
  ·omega
 ·rcases pV d with⟨rfl,rfl⟩|⟨rfl,rfl⟩
  ·omega
  ·decide
 ·rcases pV e with⟨rfl,rfl⟩|⟨rfl,rfl⟩
  ·decide
  ·rcases pV hb with⟨rfl,rfl⟩|⟨rfl,rfl⟩
   ·omega
   ·exact c
theorem FI:mE [⟨1,0,0⟩,⟨1,1,2⟩] 1 1 ⟨1,1,2⟩:=by
 refine⟨⟨1,⟨by decide,fun t x c g=> ?_,fun t x c g=> ?_⟩,rfl⟩,rfl,fun i j a b d hb f e=> ?_⟩
 ·rcases pV c with⟨rfl,rfl⟩|⟨rfl,rfl⟩<;>decide
 ·rcases pV c with⟨rfl,rfl⟩|⟨rfl,rfl⟩<;>omega
 ·rcases pV d with⟨rfl,rfl⟩|⟨rfl,rfl⟩<;>decide
theorem FK:prog.built 23 [(0, .int .i64 12),(1, .int .i64 4)]=some (aI.cells ⟨12,4,0⟩).toArray:=by kernel_rfl
theorem Lh (v:ak) (s t:ByteArray) (h:s.size=32) (i:t.size=32) (b:v.sealed=[]) (e:v.epoch=0) (hc:v.clock=0):
  gZ (v.sealed++[⟨aM v 1 s,t⟩]) (v.sealed.length:Int)=(⟨0,⟨1,0,0,1,0,0,s,⟨#[]⟩⟩,⟨(List.replicate 32 (0:UInt8)).toArray⟩,t⟩,0):=by
 rw[b];have c:ByteArray.size (⟨#[]⟩:ByteArray)=0:=rfl;have d:ByteArray.size (⟨(List.replicate 32 (0:UInt8)).toArray⟩:ByteArray)=32:=rfl
 have g:fJ [⟨aM v 1 s,t⟩] 0 ⟨aM v 1 s,t⟩=⟨0,⟨1,0,0,1,0,0,s,⟨#[]⟩⟩,⟨(List.replicate 32 (0:UInt8)).toArray⟩,t⟩:=by
  unfold fJ aM cC;rw[e,hc]
  rfl
 have f:∀a:ByteArray,a.size=32→js (⟨0,⟨1,0,0,1,0,0,s,⟨#[]⟩⟩,a,t⟩:bR)=true:=by
  intro a j;simp[js,aL,aV,h,i,c,j]
 have hc:iz [⟨aM v 1 s,t⟩] (([]:List ay).length:Int)=some ⟨aM v 1 s,t⟩:=by
  simp[iz,aM]
 unfold gZ;rw[List.nil_append,hc]
 show(if js (fJ [⟨aM v 1 s,t⟩] 0 ⟨aM v 1 s,t⟩)=true then(fJ [⟨aM v 1 s,t⟩] 0 ⟨aM v 1 s,t⟩,0)else(bR.zero,2))= _
 rw[g,if_pos (f _ d)]
theorem Is {r c:ByteArray} {l:List UInt8} {k:List UInt8} {e u:Nat} (hc:aj c (dJ l (dY k e u l.length))) (a:aj r (dJ c.data.toList (dY k e u c.size))):aj r l:=by
 have b:c.size=l.length:=by rw[hc.size,fh]
 rw[b]at a;exact a.cast (by rw[show c.data.toList= _ from hc,xm])
theorem oR (w:World):
  Calls prog 7 #[] w fun e w'=>e= .returned (.bool true)∧Below w.heap.size w w':=by
 go_enter func7,ntmps7;go_wp2_with fail
 refine(show Calls prog 5 #[.int .i64 12] w _ from xa 12 w (by decide) (by decide)).mono ?_
 rintro e w1 ⟨⟨db,c,rfl,hd,U⟩,S⟩;have HD:=hid hd;have J:=hid U;have j:=hid S;clear hd U S
 go_wp2_with (first
  |((with_reducible refine av 23 ?partsg (aI.cells ⟨12,4,0⟩) ?hg ?ho ?hf ?_);(case hg|ho=>rfl);(case hf=>exact FK))
  |fail)
 refine(show Calls prog 8 #[.pointer (some ⟨db,0,none⟩),(⟨12,4,0⟩:aI).v, .string (⟨#[48,49,50,51,52,53,54,55,56,57,97,98,99,100,101,102,48,49,50,51,52,53,54,55,56,57,97,98,99,100,101,102]⟩:ByteArray)] w1 _ from rf db 12 0 4 c (⟨#[48,49,50,51,52,53,54,55,56,57,97,98,99,100,101,102,48,49,50,51,52,53,54,55,56,57,97,98,99,100,101,102]⟩:ByteArray) w1 ⟨by decide,by decide,by decide,by decide,by decide,by decide⟩ (by decide) HD.out).mono ?_
 rintro e w2 ⟨vb,jb,sb,xb,bb,cb,cc,m1,m2,m3,key,a,kb,q,rfl,td,tk,bx,tq,E,hv⟩;obtain⟨i,V⟩:∃i,i=oq vb jb sb db xb bb cb cc m1 m2 m3 none:=⟨_,rfl⟩;have HV:=hid (show am w2 i (jh key a kb q c)from by rw[V];exact hv.at);have bt:vb=i.vb:=by rw[V];rfl
 have bi:=hid (show i.rv= .pointer none from by rw[V];rfl);have a9:=hid (show key.size=32 from by rw[tk.size,fA]);have p:=hid (show a.size=16 from by rw[td.size,mG])
 have HF:=hid (show ∀x,x∈i.foot (jh key a kb q c).d→w.heap.size≤x from by
  rw[V];exact hv.foot_ge j.size (fun x hx=>(E.foot x hx).elim (J.out x) (fun h=>Nat.le_trans j.size h)))
 have z:=hid (show Below w.heap.size w w2 from E.turned.below j.out (fun x hx=>J.out x hx) j.size);clear td tk bx tq E hv;clear V;subst bt;have b8:=hid (show ∀(l:List af) (t:Nat) (x:af),l=[]→l[t]?=some x→False from fun l t x hl hx=>by rw[hl]at hx;simp at hx);go_wp2_with fail
 refine(uj i (jh key a kb q c) 1 (⟨#[97]⟩:ByteArray) w2 HV.out (LY key a kb q c) (by show(0:Int)<12-5;decide) (by decide) (by show(1:Int)<4;decide) (by decide) p.out (by show(0:Int)≤0;decide) (by show(0:Int)≤4294967295;decide) (by show(0:Nat)≤1048575;decide) (fun t x hx=>absurd hx (by show¬([]:List af)[t]?=some x;simp))).mono ?_
 rintro e w3 ⟨rfl,g,k,H,f,aq,ah,Z,W⟩;have L:=hid (show aK w2 w3 i (jh key a kb q c) {i with xv:=k} (eP key a kb q c f g)from W);have a6:=hid (show aj H (dJ [97] (dY a.data.toList 0 0 [97].length))from aq);have j:=hid (show aj f (cellL ⟨0,0,1,false,H⟩)from ah);have K:=hid (show bI ⟨0,0,1,false,H⟩from Z);clear aq ah Z W;go_wp2_with fail
 refine(nh {i with xv:=k} (eP key a kb q c f g) 1 (uB 0 ⟨0,0,1,false,H⟩) w3 L.at' bi.out (Ip key a kb q c f g a9.out) (Le {i with xv:=k} key a kb q c f H g K.out j.out)).mono ?_
 rintro e w4 ⟨s,t,m,n,b,o,nb,sv,ts,tt,bw,tn,a0,b0,bo,he,X⟩;rw[Lh (eP key a kb q c f g) s t (by rw[ts.size,qJ]) (by rw[tt.size,dt]) rfl rfl rfl]at he;obtain⟨G,B⟩:∃G,G=(⟨(List.replicate 32 (0:UInt8)).toArray⟩:ByteArray):=⟨_,rfl⟩;rw[←B]at he
 dsimp only[bR.v]at he
 subst he;have M:=hid (show aK w3 w4 {i with xv:=k} (eP key a kb q c f g) {i with xv:=k,sv:=sv} (mS key a kb q c f g s t m n b o nb)from X);clear ts tt bw tn a0 b0 bo X B
 go_wp2_with (first
  |((with_reducible refine ab 84 _ jF (some 5) ?hgd ?ho ?hd ?_);(case hgd|ho|hd=>rfl);(intro b5 w5 Y B5 e5 z5))
  |((with_reducible refine aa 84 (.tmp 5) (.tmp 36) b5 bR.zero.cells (bR.cells ⟨0,⟨1,0,0,1,0,0,s,⟨#[]⟩⟩,G,t⟩) 84 B5 rfl dA (bR.cells_one _) ?hgd ?ho ?hx ?hy ?_);(case hgd|ho|hx|hy=>rfl);(intro w6 B6 o6))
  |fail)
 have T:Below w4.heap.size w4 w6:=o6.below (e5.mono Y) Y;have bk:=hid B6;have cw:=hid Y;have O:=hid (M.below T);have bd:=hid (M.at'.fresh Y);clear B5 e5 z5 B6 o6 Y T
 refine(uj {i with xv:=k,sv:=sv} (mS key a kb q c f g s t m n b o nb) 1 (⟨#[98]⟩:ByteArray) w6 O.at' (LZ key a kb q c f g s t m n b o nb) (by show(0+1+1:Int)<12-5;decide) (by decide) (by show(1:Int)<4;decide) (by decide) p.out (by show(0:Int)≤0+1;decide) (by show(0+1:Int)≤4294967295;decide) (by show(1:Nat)≤1048575;decide) (L0 key a kb q c f g s t m n b o nb)).mono ?_
 rintro e w7 ⟨rfl,A,y,p2,r,aA,an,ad,F⟩;have N:=hid (show aK w6 w7 {i with xv:=k,sv:=sv} (mS key a kb q c f g s t m n b o nb) {i with xv:=y,sv:=sv} (sG key a kb q c f g s t m n b o nb r A)from F);have a7:=hid (show aj p2 (dJ [98] (dY a.data.toList 1 2 [98].length))from aA);have a5:=hid (show aj r (cellL ⟨1,2,1,false,p2⟩)from an);have a8:=hid (show bI ⟨1,2,1,false,p2⟩from ad);have Q:=hid (F.turned.blk bk.out bd.out);clear aA an ad F;go_wp2_with fail
 refine(r7 {i with xv:=y,sv:=sv} (sG key a kb q c f g s t m n b o nb r A) 1 0 ⟨1,0,0⟩ 0 0 1 H w7 N.at' (Ir key a kb q c f g s t m n b o nb r A) p.out (by decide) (by show(1:Int)<4;decide) (by show(0:Int)≤0;decide) (by show(0:Int)≤0+1;decide) FH (by show(2:Nat)≤1048576;decide) ⟨by decide,by decide⟩ rfl rfl (by show(0:Int)<0+1+1+1;decide) (by decide) K.out (FD key a kb q c f g s t m n b o nb r A ▸ j.out)).mono ?_
 rintro e w8 ⟨⟨ra,rfl,a1⟩,C⟩;have be:=hid (Is a6.out a1);have P:=hid (N.below C);have R:=hid (Q.below C Q.lt);clear a1 C;go_wp2_with fail
 refine(Ey {i with xv:=y,sv:=sv} (sG key a kb q c f g s t m n b o nb r A) 1 ⟨#[]⟩ w8 P.at' [98] (fun wx hx=> ?_)).mono ?_
 ·refine(r7 {i with xv:=y,sv:=sv} (sG key a kb q c f g s t m n b o nb r A) 1 1 ⟨1,1,2⟩ 1 2 1 p2 wx hx (Ir key a kb q c f g s t m n b o nb r A) p.out (by decide) (by show(1:Int)<4;decide) (by show(0:Int)≤1;decide) (by show(1:Int)≤0+1;decide) FI (by show(2:Nat)≤1048576;decide) ⟨by decide,by decide⟩ rfl rfl (by show(2:Int)<0+1+1+1;decide) (by decide) a8.out (FG key a kb q c f g s t m n b o nb r A ▸ a5.out)).mono ?_
  rintro e wy ⟨⟨rb,rfl,u⟩,bn⟩;exact⟨⟨rb,rfl,Is a7.out u⟩,bn⟩
 rintro e w9 ⟨⟨rb,rfl,u⟩,D⟩;have I:=hid (show Below w.heap.size w w9 from(L.trans (O.trans (P.below D))).turned.below z.out HF.out z.size);have x4:w9.cell? ⟨b5,4,none⟩=some (.int .i64 1):=(R.below D R.lt).cell (i:=4) rfl;have ea:(ra.toList==[97])=true:=be.is rfl;have eb:(rb.toList==[98])=true:=u.is rfl;clear u D;go_wp2_with fail;go_ret;exact⟨rfl,I.out⟩
def iP (key:ByteArray) (ep:Int) (was:ByteArray) (seq:Int):List Value:=[.string key, .int .i64 ep, .string was, .int .i64 seq]
def oS (w:World) (b:Nat):Int:=match w.cell? ⟨b,1,none⟩with|some (.int _ n)=>n|_=>0
theorem JD (root:List UInt8) (f j:Nat):km root f (j+1)=ig (km root f j) [110,101,120,116] []:=rfl
theorem Kept.blkNe {b:Nat} {w c:World} (h:Kept b w c) {b':Nat} {x:Rec} (hb:eE w b' x) (a:b'≠b):eE c b' x:=by
 have k:∀i,c.cell? ⟨b',i,none⟩=w.cell? ⟨b',i,none⟩:=fun i=>by simp[World.cell?,h.block b' hb.lt a]
 exact⟨by have:=h.size;have:=hb.lt;omega,by rw[k];exact hb.c0,by rw[k];exact hb.c1,by rw[k];exact hb.c2,by rw[k];exact hb.c3,by rw[k];exact hb.c4,by rw[k];exact hb.c5,by rw[k];exact hb.c6,by rw[k];exact hb.c7⟩
theorem zg (root:ByteArray) (first:Int) (w:World) (h:root.size=32) (j:0≤first) (k:first≤4294967295):
  Calls prog 54 #[.string root, .int .i64 first] w fun e w'=>∃b key c,e= .returned (.tuple #[.pointer (some ⟨b,0,none⟩), .int .i64 0])∧aj key (km root.data.toList first.toNat 0)∧aj c (List.replicate 32 0)∧ac w' b (iP key first c 0) 207∧w.heap.size≤b∧Below w.heap.size w w':=by
 go_enter func54,ntmps54;go_wp2_with fail
 refine(qn root first _).mono ?_
 rintro e p ⟨l,d⟩;obtain⟨key,rfl,m⟩:=l.yes ⟨j,k,h⟩;go_wp2_with fail
 refine(tZ _).mono ?_
 rintro e q ⟨c,rfl,n,f⟩;go_wp2_with ((with_reducible refine ae 207 (.tmp 17) (iP key first c 0) (some 18) ?hgd ?ho ?hd ?hx ?_);(case hgd|ho|hd|hx=>rfl);(intro b r o g i s));go_ret2;have a:=bt d f;exact⟨b,key,c,rfl,m,n,g,by have:=a.size;omega,a.trans (i.mono (by have:=a.size;omega))⟩
def lh (l:List Rec):List Value:=l.flatMap Rec.cells
theorem FM (l:List Rec) (r:Rec):lh (l++[r])=lh l++r.cells:=by simp[lh]
theorem JE (b:List Rec):∀(j:Nat) (y:Rec),b[j]?=some y→∀(i:Nat) (u:Value),y.cells[i]?=some u→(lh b)[j*8+i]?=some u:=by
 induction b with
 |nil=>intro j y h;simp at h
 |cons a r ih=>
  intro j y h i u hu;have c:a.cells.length=8:=rfl
  show(a.cells++lh r)[_]?= _
  cases j with
  |zero=>
   simp at h;subst h
   have:=(List.getElem?_eq_some_iff.1 hu).1
   rw[List.getElem?_append_left (by omega),Nat.zero_mul,Nat.zero_add];exact hu
  |succ j=>
   rw[List.getElem?_append_right (by omega),c,show(j+1)*8+i-8=j*8+i by omega];exact ih j y (by simpa using h) i u hu
theorem jm.below {w a:World} {v:Value} {l:List Rec} (h:jm w v l) {B:Nat} (hb:Below B w a) (k:w.heap.size≤B):jm a v l:=by
 refine h.imp id ?_;rintro⟨g,o,c,b,f,d⟩;exact⟨g,o,c,b,by have:=hb.size;omega,fun j x e i u hu=>by rw[hb.cell (by show g<B;omega)];exact d j x e i u hu⟩
theorem jm.own {w:World} {a n:Nat} {v:Value} {xs:List Rec} (h:w.ownsRow a 59 8 v n (lh xs)) (hn:n=xs.length):jm w v xs:=by
 subst hn
 by_cases c:xs=[]
 ·subst c
  exact .inl ⟨rfl,vO h⟩
 ·obtain⟨g,b,z,rfl,hc,hb,e⟩:=bO h (List.length_pos_iff.2 c)
  refine .inr ⟨g,0,b,rfl,e.lt,fun j x f i u hu=> ?_⟩;refine e.cell ?_;have d:=JE xs j x f i u hu;rw[Nat.zero_add,List.getElem?_append_left (List.getElem?_eq_some_iff.1 d).1];exact d
theorem D8:(prog.info? 59).map (fun i=>(i.zero,i.size,i.bytes))=some (some (.agg Rec.zero.cells.toArray),8,80):=by kernel_rfl
theorem D9 (w:World):Sem.run prog (zeroValue 61) w= .ok (.agg (ay.cells ⟨Rec.zero,⟨#[]⟩⟩).toArray) w:=by kernel_rfl
theorem A5 {x:ay}:(prog.info? 61).map (·.size)=some x.cells.length:=by kernel_rfl
theorem Rec.cells_one1 (x:Rec):∀v∈x.cells,v.oneCell'=true:=by intro v a;simp[Rec.cells]at a;rcases a with rfl|rfl|rfl|rfl|rfl|rfl|rfl|rfl<;>rfl
theorem jv (v:Value) (l:List ay) (w:World) (h:dh w v l) (hl:l.length≤1048576):
  Calls prog 51 #[v] w fun e w'=>∃D,e= .returned D∧w'.ownsRow w.heap.size 59 8 D l.length (lh (l.map ay.r))∧Below w.heap.size w w':=by
 obtain⟨p,c,rfl⟩:=h.shape;obtain⟨n,hn⟩:∃n,n=l.length:=⟨_,rfl⟩;rw[←hn]at h ⊢;have Z:n≤1048576:=by omega
 have C:=hid hn;have Q:=hid h;clear h hl hn;obtain⟨i0,Y,G,H,I⟩:=info_parts D8;go_enter func51,ntmps51;go_wp2_with fail;go_loopw [3,8] (fun D i wr=>∃k:Nat,k≤n∧i= .int .i64 k∧wr.ownsRow w.heap.size 59 8 D k (lh ((l.map ay.r).take k))∧Below w.heap.size w wr) (fun _ i _=>n-(intOf i).toNat)
 case atStart=>exact⟨0,by omega,rfl,World.ownsRow_nil _ _ _ _,Below.refl _ _⟩
 case round=>
  obtain⟨k,hk,rfl,f,a⟩:=hrel;obtain⟨q,d,rfl⟩:=aD f;have J:=hid f;clear f
  by_cases F:k<n
  ·have L:(k:Int)<n:=by omega
   rcases Q.out with⟨h0,_⟩|⟨g,o,c',hq,hcc,hg,hat⟩
   ·have:=C.out;rw[h0]at this;simp at this;omega
   rw[←C.out]at hq
   injection hq with hq1 _ hq3
   subst hq1 hq3;obtain⟨x,hx⟩:∃x,l[k]?=some x:=⟨_,List.getElem?_eq_getElem (by rw[←C.out];exact F)⟩;have b:wr.rangeAt g (o+k*9) x.cells:=fun j u hu=>by rw[a.cell (by show g<w.heap.size;exact hg)];exact hat k x hx j u hu
   obtain⟨c0,c1,c2,c3,c4,c5,c6,c7,c8⟩:=mY b
   have m:lh ((l.map ay.r).take (k+1))=lh ((l.map ay.r).take k)++x.r.cells:=by
    have V:(l.map ay.r)[k]?=some x.r:=by simp[hx]
    obtain⟨W,X⟩:=List.getElem?_eq_some_iff.1 V;rw[List.take_succ_eq_append_getElem W,X,FM]
   have E:=hid m;clear m b hat hx
   go_wp2_with (first
    |((with_reducible refine ab 61 (ay.cells ⟨Rec.zero,⟨#[]⟩⟩) D9 (some 5) ?hgd ?ho ?hd ?_);(case hgd|ho|hd=>rfl);(intro R w5 M O S z5))
    |((with_reducible refine aa 61 (.tmp 5) (.tmp 11) R (ay.cells ⟨Rec.zero,⟨#[]⟩⟩) x.cells 61 O rfl A5 (ay.cells_one _) ?hgd ?ho ?hx ?hy ?_);(case hgd|ho|hx|hy=>rfl);(intro w6 s o6);(have d0:=s.cell (i:=0) rfl);(have d1:=s.cell (i:=1) rfl);(have d2:=s.cell (i:=2) rfl);(have d3:=s.cell (i:=3) rfl);(have d4:=s.cell (i:=4) rfl);(have d5:=s.cell (i:=5) rfl);(have d6:=s.cell (i:=6) rfl);(have d7:=s.cell (i:=7) rfl))
    |((with_reducible refine aT 115 59 1 ?parts x.r.cells (.agg Rec.zero.cells.toArray) 8 80 (some 15) underlying115 D8 (by omega) (by omega) ?hgd ?ho ?hd ?hf ?_);(case hgd|ho|hd=>rfl);(case hf=>kernel_rfl);(intro U w7 l7 P T z7);(have A:=o6.below (S.mono M) M);(have z:=A.trans (T.mono (Nat.le_trans A.size l7)));(have t:=own_below z J.out))
    |(at_builtin;refine wpList_append_own_wide _ rfl _ _ 115 rfl w.heap.size 59 i0 (.agg Rec.zero.cells.toArray) 8 80 underlying115 Y G H I rfl (by decide) _ _ _ rfl t ⟨U,0,none⟩ 1 1 x.r.cells rfl rfl (bJ P) (Rec.cells_one1 _) (by unfold maxLen;omega) (by omega) (by have:=a.size;have:=z.size;omega) ?_;intro v' w8 B y N)
    |fail)
   have K:=a.trans (z.mono a.size);go_roundw
   case rel=>exact⟨k+1,by omega,by go_num,by rw[E.out];exact B,eh K t y (Nat.le_refl _) K.size⟩
   case measure=>simp[intOf];omega
  ·obtain rfl:k=n:=by omega
   go_wp2_with fail;go_ret;refine⟨_,rfl, ?_,a⟩
   have:=J.out
   rw[List.take_of_length_le (by rw[List.length_map,←C.out];omega)]at this;exact this
theorem sH (first:Int) (v:Value) (l:List Rec) (w:World) (h:jm w v l) (hl:l.length≤1048576) (t:0≤first) (u:first≤4294967295) (i:∀r,l.getLast?=some r→0≤r.epoch∧r.epoch≤4294967295):
  Calls prog 53 #[.int .i64 first,v] w fun e w'=>e= .returned (.bool (je first l))∧w=w':=by
 rcases h with⟨rfl,p,c,rfl⟩|⟨g,o,c,rfl,hg,hc⟩
 ·go_enter func53,ntmps53
  go_wp2_with fail;go_ret;exact⟨rfl,rfl⟩
 ·by_cases b:l=[]
  ·subst b
   clear hc;go_enter func53,ntmps53;go_wp2_with fail;go_ret;exact⟨rfl,rfl⟩
  ·obtain⟨n,hn⟩:∃n,n=l.length:=⟨_,rfl⟩
   have j:0<n:=by rw[hn];exact List.length_pos_iff.2 b
   obtain⟨r,f⟩:∃r,l[n-1]?=some r:=⟨_,List.getElem?_eq_getElem (by omega)⟩;have a:l.getLast?=some r:=by rw[List.getLast?_eq_getElem?,←hn,f]
   obtain⟨q,s⟩:=i r a;have m:w.cell? ⟨g,o+(n-1)*8+1,none⟩=some (.int .i64 r.epoch):=hc _ r f 1 _ rfl;have d:je first l=decide (4096<r.epoch-first):=by unfold je;rw[a]
   have k:=hid d;have x:(0:Int)<n:=by omega
   have y:(0:Int)≤(n:Int)-1:=by omega
   have k2:(n:Int)-1<n:=by omega
   have z:(n:Int)≤1048576:=by omega
   rw[←hn];clear hc f b a d hn hl i;go_enter func53,ntmps53;go_wp2_with fail;go_ret;exact⟨JU k.symm,rfl⟩
theorem Iu (first:Int) (v:Value) (w:World) (h:first<0∨4294967295<first):
  Calls prog 52 #[.int .i64 first,v] w fun e w'=>e= .returned (.tuple #[.int .i64 0, .int .i64 0, .int .i64 2])∧Below w.heap.size w w':=by
 rcases h with h|h
 ·go_enter func52,ntmps52
  go_wp2_with fail;go_ret3;exact⟨rfl,Below.refl _ _⟩
 ·have a:0≤first:=by omega
  go_enter func52,ntmps52;go_wp2_with fail;go_ret3;exact⟨rfl,Below.refl _ _⟩
theorem rr (b:Nat) (key d:ByteArray) (root:List UInt8) (f j a:Nat) (r:Rec) (w:World) (Y:ac w b (iP key ((f+j:Nat):Int) d (a:Int)) 207)
  (hk:aj key (km root f j)) (P:aL r=true) (h1:((f+j:Nat):Int)≤r.epoch) (B:d.size=32) (hs:a≤4294967295):
  Calls prog 55 #[.pointer (some ⟨b,0,none⟩),r.v] w fun e w'=>∃t s,e= .returned (.string t)∧aj t (iL (km root f (r.epoch.toNat-f)) d.data.toList a r)∧aj s (km root f (r.epoch.toNat-f))∧ac w' b (iP s r.epoch t ((a+1:Nat):Int)) 207∧Kept b w w':=by
 have aq:0≤r.epoch∧r.epoch≤4294967295:=by
  simp only[aL,Bool.and_eq_true,decide_eq_true_eq]at P;omega
 obtain⟨E,hE⟩:∃E:Nat,r.epoch=(E:Int):=⟨r.epoch.toNat,by omega⟩;have cl:E≤4294967295:=by omega
 have an:f+j≤E:=by omega
 have R:=hid hE
 have o:r.root.size≤1048576∧r.name.size≤1048576∧Fits r.epoch:=by
  have:=dH P
  exact⟨by omega,by omega,by unfold Fits;omega⟩
 have T:=hid o;clear o;have HR:=hid P;clear P hE aq h1;have HW:=hid B;clear B;have hb:=Y.lt;have u:=hid Y;clear Y;go_enter func55,ntmps55;go_wp2_with ((with_reducible refine ae 59 (.tmp 1) r.cells (some 3) ?hgd ?ho ?hd ?hx ?_);(case hgd|ho|hd|hx=>rfl);(intro bx w0 l0 B0 e0 z0;have R0:=hid (eE.blk B0)));have ad:b≠bx:=by omega
 have G:=hid (u.below e0 (by omega));have L:Kept b w w0:=(Kept.refl b w).below' e0 l0;have I:=hid L;clear L u B0;go_loopw [12] (fun _ wr=>∃(i:Nat) (k:ByteArray),f+i≤E∧aj k (km root f i)∧ac wr b (iP k ((f+i:Nat):Int) d (a:Int)) 207∧eE wr bx r∧Kept b w wr) (fun _ wr=>((E:Int)-oS wr b).toNat)
 case atStart=>exact⟨j,key,an,hk,G.out,R0.out,I.out⟩
 case round=>
  clear G R0 I;obtain⟨i,k,cm,N,c,q,p⟩:=hrel;have M:oS wr b=((f+i:Nat):Int):=by unfold oS;rw[c.cell (i:=1) rfl]
  have S:=hid M;clear M;have k0:=c.cell (i:=0) rfl;have k1:=c.cell (i:=1) rfl;have k2:=c.cell (i:=2) rfl;have k3:=c.cell (i:=3) rfl;have f0:=c.free 0;have f1:=c.free 1;have x1:wr.cell? ⟨bx,1,none⟩=some (.int .i64 (E:Int)):=by rw[q.c1,R.out]
  have u:=hid c;clear c;have h:=hid q;clear q;have C:=hid p;clear p;obtain⟨l,n⟩:∃l,l=f+i:=⟨_,rfl⟩;rw[←n]at k1;have m:=hid n
  by_cases cs:l<E
  ·have bo:(l:Int)<E:=by omega
   have bn:l≤4294967295:=by omega
   clear k2 k3 n;go_wp2_with fail;go_quiet (fail);go_wp2_with fail
   refine(rA k _).mono ?_
   rintro e w2 ⟨he,x⟩;obtain⟨s,rfl,O⟩:=he.yes (by rw[N.size,vm]);have D:=(u.drewN _).below x (u.drewN _).lt;have R2:=(h.below (Below.drewN (Below.refl _ _) _) (by exact h.lt)).below x h.lt;have K2:=C.below' ((Below.drewN (Below.refl wr.heap.size wr) _).trans x) (Nat.le_refl _);have cw:=D.cell (i:=0) rfl;have a0:=D.cell (i:=1) rfl;rw[←m.out]at a0;have cc:=D.free 0;have ce:=D.free 1;have B4:=(D.set 0 (.string s)).set 1 (.int .i64 ((l+1:Nat):Int));have K4:=(K2.setCell 0 (.string s)).setCell 1 (.int .i64 ((l+1:Nat):Int));have R4:=((((Kept.refl b w2).setCell 0 (.string s)).setCell 1 (.int .i64 ((l+1:Nat):Int)))).blkNe R2 (Ne.symm ad);have H:=hid B4;have U:=hid K4;have X:=hid R4;have ht:aj s (km root f (i+1)):=by rw[JD];rw[N]at O;exact O
   clear D R2 K2 B4 K4 R4 k0 k1 f0 f1 x1 u h C x;go_wp2_with fail;go_roundw
   case rel=>
    refine⟨i+1,s,by have:=m.out;omega,ht, ?_,X.out,U.out⟩;refine H.ext ?_
    show[Value.string s,Value.int .i64 ((l+1:Nat):Int),Value.string d,Value.int .i64 (a:Int)]=[Value.string s,Value.int .i64 ((f+(i+1):Nat):Int),Value.string d,Value.int .i64 (a:Int)]
    rw[m.out,Nat.add_assoc]
   case measure=>
    have h2:oS ((w2.setCell ⟨b,0,none⟩ (.string s)).setCell ⟨b,1,none⟩ (.int .i64 ((l:Int)+1))) b=(l:Int)+1:=by unfold oS;rw[show(l:Int)+1=((l+1:Nat):Int) by simp,H.cell (i:=1) rfl]
    rw[S.out,h2]
    have:=m.out
    omega
  ·obtain rfl:l=E:=by omega
   have A:iW d (a:Int) r:=⟨HW.out,by omega,by omega,HR.out⟩;have HS:=hid A;have W:Hid (k.size=32):=hid (by rw[N.size,vm]);have K:=hid N;have Z:=u.lt;obtain⟨_,x0,cy,x2,x3,x4,x5,x6,x7⟩:=h.out;have f2:=u.free 2;clear f0 f1 A N n;go_wp2_with fail;go_quiet (fail);go_wp2_with fail;have z:b<(wr.drewN nq).heap.size:=Z;have g:Hid (ac (wr.drewN nq) b (iP k ((f+i:Nat):Int) d (a:Int)) 207):=hid (u.drewN _);have J:Hid (Kept b w (wr.drewN nq)):=hid (C.drewN _);have X5:Hid (eE (wr.drewN nq) bx r):=hid (h.below (Below.drewN (Below.refl _ _) _) (by exact h.lt))
   generalize wr.drewN nq=w5 at z g J X5 ⊢
   have k0:=g.cell (i:=0) rfl;have k2:=g.cell (i:=2) rfl;have k3:=g.cell (i:=3) rfl;obtain⟨_,x0,x1,x2,x3,x4,x5,x6,x7⟩:=X5.out;go_cut [46]from 30 to 49 (fun v wc=>∃t,v= .string t∧aj t (iL (km root f i) d.data.toList a r)∧ac wc b (iP k ((f+i:Nat):Int) t (a:Int)) 207∧Kept b w wc)
   case first=>
    go_region_with ((go_at_call 131;refine(xf k d a r _ T.out.1 T.out.2.1 T.out.2.2 (by unfold Fits;omega)).mono ?_;rintro e w6 ⟨he,y⟩;obtain⟨t,rfl,tt⟩:=he.yes ⟨W.out,HS.out⟩;have cb:w6.cell? ⟨b,2,none⟩=some (.string d):=(g.drew.below y z).cell (i:=2) rfl;have cf:w6.frozen? ⟨b,2,none⟩=false:=(g.drew.below y z).free 2;have B6:=hid ((g.drew.below y z).set 2 (.string t));have K6:=hid (((J.drew).below' y (Nat.le_refl _)).setCell 2 (.string t))))
    all_goals go_wp2_with fail
    all_goals go_meet
    all_goals exact⟨t,rfl,tt.cast (by rw[show k.data.toList= _ from K.out]),B6.ext rfl,K6.out⟩
   case rest=>
    obtain⟨t,rfl,tt,F,K7⟩:=hcut;have k2:=F.cell (i:=2) rfl;have k3:=F.cell (i:=3) rfl;have f3:=F.free 3;have Q:=hid (F.set 3 (.int .i64 ((a+1:Nat):Int)));have V:=hid (K7.setCell 3 (.int .i64 ((a+1:Nat):Int)));have cu:(a:Int)≤4294967295:=by omega
    clear F K7 x0 x1 x2 x3 x4 x5 x6 x7 k0;go_wp2_with fail;go_ret;have n:r.epoch.toNat-f=i:=by have:=m.out;have:=R.out;omega
    rw[n];refine⟨t,k,rfl,tt,K.out,Q.ext ?_,V.out⟩;rw[R.out,m.out]
    rfl
theorem Kept.grownBy {b:Nat} {w c:World} (h:Kept b w c):w.grownBy c (some b):=⟨h.os,h.tape,h.output,h.size,fun k d a=>h.block k d (by intro e;exact a (by rw[e]))⟩
def tN (root:ByteArray) (first:Int) (l:List ay) (e:Ending):Prop:=e= .returned (.tuple #[.int .i64 (gq root first l).1, .int .i64 (gq root first l).2.1, .int .i64 (gq root first l).2.2])
theorem vf {root:ByteArray} {first:Int} {l:List ay} (h:¬root.size=32∨first<0∨4294967295<first):gq root first l=(0,0,2):=by unfold gq;rw[if_pos h]
theorem Iw {l:List ay} {k:Nat} {x:ay} (h:l[k]?=some x):(l.map ay.r)[k]?=some x.r:=by simp[h]
theorem Ix {l:List ay} (b:∀(j:Nat) (x:ay),l[j]?=some x→x.r.name.size≤1048576∧Fits x.r.epoch):∀(j:Nat) (r:Rec),(l.map ay.r)[j]?=some r→r.name.size≤1048576∧Fits r.epoch:=by
 intro j r a;rw[List.getElem?_map]at a
 cases hx:l[j]? with
 |none=>rw[hx]at a;cases a
 |some x=>rw[hx]at a;simp at a;subst a;exact b j x hx
def L1 (root:List UInt8) (f:Nat) (l:List ay) (k:Nat):Prop:=∀(i:Nat) (x:ay),i<k→l[i]?=some x→x.tag.data.toList=fW root f (l.map ay.r) (i+1)
theorem DK (root:ByteArray) (first:Int) (v:Value) (l:List ay) (w:World) (h:dh w v l) (hl:l.length≤1048576) (ht:∀(j:Nat) (x:ay),l[j]?=some x→x.r.name.size≤1048576∧Fits x.r.epoch):
  Calls prog 17 #[.string root, .int .i64 first,v] w fun e w'=>tN root first l e∧Below w.heap.size w w':=by
 unfold tN
 by_cases c1:root.size=32
 rotate_left
 ·have d1:¬(root.size:Int)=32:=by omega
  rw[vf (.inl c1)];clear c1 h ht hl;go_enter func17,ntmps17;go_wp2_with fail;go_ret3;exact⟨rfl,Below.refl _ _⟩
 have d1:(root.size:Int)=32:=by omega
 obtain⟨p,c,rfl⟩:=h.shape;obtain⟨n,hn⟩:∃n,n=l.length:=⟨_,rfl⟩;rw[←hn]at h ⊢;obtain⟨R,hR⟩:∃R,R=l.map ay.r:=⟨_,rfl⟩;have bv:R.length=n:=by rw[hR,hn,List.length_map]
 have C1:=hid c1;clear c1;have HT:=hid (Ix ht);clear ht;have HS:=hid h;have HN:=hid hn;have q:=hid hR;have A:=hid bv;have e7:n≤1048576:=by omega
 have HL:=hid hl;clear h hn hR bv hl
 by_cases c2:first<0∨4294967295<first
 ·rw[vf (.inr c2)]
  have C2:=hid c2;clear c2;go_enter func17,ntmps17;go_wp2_with fail
  refine(jv _ l _ HS.out HL.out).mono ?_
  rintro e w1 ⟨V,rfl,d,B⟩;clear d;go_wp2_with fail
  refine(Iu first V _ C2.out).mono ?_
  rintro e w2 ⟨rfl,s⟩;go_wp2_with fail;go_ret3;exact⟨rfl,bt B s⟩
 have f0:0≤first:=by omega
 have f1:first≤4294967295:=by omega
 clear c2;obtain⟨ep,bx⟩:∃ep,(bq first 0 0 R).1=ep:=⟨_,rfl⟩;obtain⟨bo,N⟩:∃a,(bq first 0 0 R).2.1=a:=⟨_,rfl⟩;have aq:=E8 R first 0 0;obtain⟨er,a7⟩:∃a,(bq first 0 0 R).2.2=a:=⟨_,rfl⟩;rw[a7]at aq;have L:=hid bx;clear bx;have J:=hid N;clear N;have D:=hid a7;clear a7
 rcases aq with rfl|rfl
 rotate_left
 ·have hc:gq root first l=(ep,(bo:Int),16):=by
   unfold gq;rw[if_neg (by have:=C1.out;omega),←q.out,D.out,L.out,J.out]
   rfl
  rw[hc];clear hc;go_enter func17,ntmps17;go_wp2_with fail
  refine(jv _ l _ HS.out HL.out).mono ?_
  rintro e w1 ⟨V,rfl,d,B⟩;have m:=hid (jm.own (by rw[←q.out]at d;exact d) (by rw[A.out,HN.out]));clear d;go_wp2_with fail
  refine(nG first V R _ m.out (by rw[A.out];omega) (by rw[q.out];exact HT.out) f0 f1).mono ?_
  rintro e w2 ⟨rfl,s⟩;rw[L.out,J.out,D.out];go_wp2_with fail;go_ret3;exact⟨rfl,bt B s⟩
 obtain⟨g1,g2,g3⟩:=ny R _ _ _ D.out
 have G:∀r,R.getLast?=some r→0≤r.epoch∧r.epoch≤4294967295:=by
  intro r hr;rw[List.getLast?_eq_getElem?]at hr;have h1:=(g3.each _ r hr).1;simp only[aL,Bool.and_eq_true,decide_eq_true_eq]at h1;omega
 have X:=hid G;clear G;have G3:=hid g3;clear g3;clear g1 g2
 cases hby:je first R with
 |true=>
  have hc:gq root first l=(first,0,6):=by
   unfold gq;rw[if_neg (by have:=C1.out;omega),←q.out,D.out,hby]
   rfl
  rw[hc];have a0:=hid hby;clear hc hby;go_enter func17,ntmps17;go_wp2_with fail
  refine(jv _ l _ HS.out HL.out).mono ?_
  rintro e w1 ⟨V,rfl,d,B⟩;have m:=hid (jm.own (by rw[←q.out]at d;exact d) (by rw[A.out,HN.out]));clear d;go_wp2_with fail
  refine(nG first V R _ m.out (by rw[A.out];omega) (by rw[q.out];exact HT.out) f0 f1).mono ?_
  rintro e w2 ⟨rfl,s⟩;rw[L.out,J.out,D.out];go_wp2_with fail
  refine(sH first V R _ (m.below s (Nat.le_refl _)) (by rw[A.out];omega) f0 f1 X.out).mono ?_
  rintro e w3 ⟨rfl,rfl⟩;rw[a0.out];go_wp2_with fail;go_ret3;exact⟨rfl,bt B s⟩
 |false=>
  have b1:AH root first R:=⟨C1.out,f0,f1,D.out,hby⟩;have cc:=hid b1;have a0:=hid hby
  have hc:∀(o:Option Nat),oM root.data.toList first.toNat l=o→gq root first l=match o with|some k=>(match l[k]? with|some x=>x.r.epoch|none=>0,(k:Int),15)|none=>(ep,(bo:Int),0):=by
   intro o ho;unfold gq;rw[if_neg (by have:=C1.out;omega),←q.out,D.out,hby,ho,L.out,J.out]
   rfl
  have HC:=hid hc;obtain⟨f,hf⟩:∃f:Nat,first=(f:Int):=⟨first.toNat,by omega⟩;have b0:first.toNat=f:=by omega
  have S:=hid b0;have a1:=hid hf;clear hc hby b1 hf b0;go_enter func17,ntmps17;go_wp2_with fail
  refine(jv _ l _ HS.out HL.out).mono ?_
  rintro e w1 ⟨V,rfl,d,B⟩;have m:=hid (jm.own (by rw[←q.out]at d;exact d) (by rw[A.out,HN.out]));clear d;go_wp2_with fail
  refine(nG first V R _ m.out (by rw[A.out];omega) (by rw[q.out];exact HT.out) f0 f1).mono ?_
  rintro e w2 ⟨rfl,s⟩;rw[L.out,J.out,D.out];go_wp2_with fail
  refine(sH first V R _ (m.below s (Nat.le_refl _)) (by rw[A.out];omega) f0 f1 X.out).mono ?_
  rintro e w3 ⟨rfl,rfl⟩;rw[a0.out];go_wp2_with fail
  refine(zg root first _ C1.out f0 f1).mono ?_
  rintro e w3 ⟨b,key,z,rfl,tk,tw,B3,hb,bw⟩;have T:=bt B (bt s bw);have b2:w.heap.size≤b:=by have:=B.size;have:=s.size;omega
  have K:=hid B3;clear B3;have bk:=hid T;clear T B s bw m;rw[S.out]at tk;have ah:(first:Int)=((f+0:Nat):Int):=by have:=a1.out;omega
  rw[ah]at K;have K:=hid K;clear ah;go_wp2_with fail;go_loopw [46] (fun i wr=>∃(k j:Nat) (key z:ByteArray),k≤n∧i= .int .i64 k∧aj key (km root.data.toList f j)∧aj z (fW root.data.toList f R k)∧j≤closes (R.take k)∧ac wr b (iP key ((f+j:Nat):Int) z (k:Int)) 207∧Below w.heap.size w wr∧L1 root.data.toList f l k) (fun i _=>n-(intOf i).toNat)
  case atStart=>exact⟨0,0,key,z,by omega,rfl,tk,tw,Nat.zero_le _,K.out,bk.out,fun i x hi=>by omega⟩
  case round=>
   clear K bk tk tw;obtain⟨k,j,key,z,hk,rfl,tk,tw,hj,Q,E,C⟩:=hrel;have HB:=hid Q;have T:=Q.lt;have HG:=hid C;have TW:=hid tw;have TK:=hid tk;clear Q C tw tk
   by_cases cu:k<n
   ·have ec:(k:Int)<n:=by omega
    obtain⟨x,hx⟩:∃x,l[k]?=some x:=⟨_,List.getElem?_eq_getElem (by rw[←HN.out];exact cu)⟩
    rcases HS.out with⟨h0,_⟩|⟨g,o,c',hq,hcc,hg,N⟩
    ·have:=HN.out;rw[h0]at this;simp at this;omega
    rw[←HN.out]at hq
    injection hq with hq1 _ hq3
    subst hq1 hq3;have H:wr.rangeAt g (o+k*9) x.cells:=fun j u hu=>by rw[E.cell (by show g<w.heap.size;exact hg)];exact N k x hx j u hu
    obtain⟨c0,c1,c2,c3,c4,c5,c6,c7,c8⟩:=mY H;have U:R[k]?=some x.r:=by rw[q.out];exact Iw hx
    obtain⟨q1,q2,q3⟩:=cc.epochs k x.r U;have Q1:=hid q1;have an:((f+j:Nat):Int)≤x.r.epoch:=by rw[q2,a1.out];omega
    have b3:z.size=32:=by rw[TW.size,Jq (by rw[A.out];exact hk)]
    have bn:=hid b3;have bm:Hid (fW root.data.toList f R (k+1)=iL (km root.data.toList f (x.r.epoch.toNat-f)) (fW root.data.toList f R k) k x.r):=hid (oL U);have e4:closes (R.take k)≤closes (R.take (k+1)):=mN R (by omega);have ce:=hid q2;have HX:=hid hx;have em:=hid U;clear H N hx U q1 q2 b3
    go_wp2_with (first
     |((with_reducible refine ab 61 (ay.cells ⟨Rec.zero,⟨#[]⟩⟩) D9 (some 16) ?hgd ?ho ?hd ?_);(case hgd|ho|hd=>rfl);(intro b5 w5 l5 B5 e5 z5))
     |((with_reducible refine aa 61 (.tmp 16) (.tmp 50) b5 (ay.cells ⟨Rec.zero,⟨#[]⟩⟩) x.cells 61 B5 rfl A5 (ay.cells_one _) ?hgd ?ho ?hx ?hy ?_);(case hgd|ho|hx|hy=>rfl);(intro w6 I o6);(have a6:=o6.below (e5.mono l5) l5))
     |fail)
    have Z:=HB.below a6 T;have W:=hid Z;have P:=E.trans (a6.mono E.size);have F:=hid P;have O:b5≠b:=by omega
    have aA:=hid I;have d0:=I.cell (i:=0) rfl;have d1:=I.cell (i:=1) rfl;have d2:=I.cell (i:=2) rfl;have d3:=I.cell (i:=3) rfl;have d4:=I.cell (i:=4) rfl;have d5:=I.cell (i:=5) rfl;have d6:=I.cell (i:=6) rfl;have d7:=I.cell (i:=7) rfl;have d8:=I.cell (i:=8) rfl;clear Z P E B5 I e5 l5 z5 o6 a6 HB c0 c1 c2 c3 c4 c5 c6 c7 c8
    by_cases hT:x.tag.data.toList=fW root.data.toList f R (k+1)
    ·have M:=hid hT;clear hT
     go_region_with ((go_at_call 55;refine(rr b key z root.data.toList f j k x.r _ W.drew TK.out Q1.out an bn.out (by omega)).mono ?_;rintro e w7 ⟨t,k',rfl,tt,b4,B7,Y⟩;have ew:aj t (fW root.data.toList f R (k+1)):=(by rw[bm.out];exact tt.cast (by rw[show z.data.toList= _ from TW.out]));have e1:(t.toList==x.tag.toList)=true:=ew.same (aj.self _) M.symm;have z8:w7.cell? ⟨b5,8,none⟩=some (.string x.tag):=(Y.blk aA.drew O).cell (i:=8) rfl;have bi:=hid B7;have a2:=hid Y;clear B7 Y))
     all_goals
      go_wp2_with fail;go_roundw
      case rel=>
       have hE:=ce.out;have hF:=a1.out;have ea:x.r.epoch.toNat-f=closes (R.take k):=by omega
       refine⟨k+1,x.r.epoch.toNat-f,k',t,by omega,by go_num,b4,ew,by omega,bi.ext ?_, ?_, ?_⟩
       ·rw[show((f+(x.r.epoch.toNat-f):Nat):Int)=x.r.epoch by omega]
       ·exact a2.below F.drew b2 F.drew.size
       ·intro i y hi hy
        by_cases cs:i=k
        ·subst cs
         rw[HX.out]at hy;obtain rfl:=Option.some.inj hy;rw[←q.out];exact M.out
        ·exact HG.out i y (by omega) hy
      case measure=>simp[intOf];omega
    ·have M:=hid hT;clear hT
     go_region_with ((go_at_call 55;refine(rr b key z root.data.toList f j k x.r _ W.drew TK.out Q1.out an bn.out (by omega)).mono ?_;rintro e w7 ⟨t,k',rfl,tt,b4,B7,Y⟩;have ew:aj t (fW root.data.toList f R (k+1)):=(by rw[bm.out];exact tt.cast (by rw[show z.data.toList= _ from TW.out]));have e1:(t.toList==x.tag.toList)=false:=ew.other (aj.self _) (fun h=>M.out h.symm);have z8:w7.cell? ⟨b5,8,none⟩=some (.string x.tag):=(Y.blk aA.drew O).cell (i:=8) rfl;have z1:w7.cell? ⟨b5,1,none⟩=some (.int .i64 x.r.epoch):=(Y.blk aA.drew O).cell (i:=1) rfl;have bi:=hid B7;have a2:=hid Y;clear B7 Y))
     all_goals
      go_wp2_with fail;go_ret3;have ad:=HC.out _ (Dx (root:=root.data.toList) (f:=first.toNat) HX.out (by rw[S.out,←q.out];exact M.out) (fun i y hi hy=>by rw[S.out];exact HG.out i y hi hy));simp only[HX.out]at ad;rw[ad];exact⟨rfl,a2.below F.drew b2 F.drew.size⟩
   ·obtain rfl:k=n:=by omega
    go_wp2_with fail;go_ret3;have C:=HC.out _ (sC.2 (fun i x hx=>by rw[S.out];exact HG.out i x (by rw[HN.out];exact(List.getElem?_eq_some_iff.1 hx).1) hx));rw[C];exact⟨rfl,E⟩
open Go.Sort
theorem L2:fL:=by
 intro W v m xs a h j l
 rcases h.2 with⟨rfl,rfl⟩|⟨g,cap,cur,rfl,hb,hg,hc,hcm,hcs,hx⟩
 ·refine(slices_Sort_string_none none 0 a).mono ?_
  rintro e k ⟨rfl,rfl⟩;exact⟨rfl,Below.refl _ _⟩
 ·have hl:xs.length=m:=by have:=h.1;simpa using this
  have i:Holds encStr a g 0 ((xs.map fun s=>s.data.toList).toArray):=holds_of_block hg (by
   rw[List.length_map,hl,List.map_map];have d:=hx;rw[Nat.mul_one]at d;rw[d];refine List.map_congr_left fun s _=> ?_
   simp[encStr])
  have b:g<a.heap.size:=(Array.getElem?_eq_some_iff.1 hg).1;have c:(xs.map fun s=>s.data.toList).length=m:=by rw[List.length_map,hl]
  have f:=slices_Sort_string g 0 cap (xs.map fun s=>s.data.toList) a i b (by omega);rw[c]at f;refine f.mono ?_;rintro e k ⟨rfl,n,o,rfl⟩;exact⟨rfl,us (Below.refl _ _) (grownBy_sorted _) hb j⟩
open Go.ChangeShapes Go.WideShapes Go.Deep
structure wO (g:aI):Prop where
 blocks:Fits g.blocks
 lbas:Fits g.lbas
 first:Fits g.first
section
variable {H:Type} {enc:TypeId×Value→H} {w:World} {base:Nat} {spare:Nat→Bool} {held:Bool}
theorem JF {a:Nat} {cs:List Value} {x:DataW H×List MemPlace} (h:DataW.trod enc prog w base spare held a 23 cs=some x):∃g:aI,cs=g.cells∧wO g:=by
 obtain⟨xs,n,_,_,hl,b,c⟩:=DataW.trod_struct underlying23 h;have hc:prog.cellsOf 23=3:=by kernel_rfl
 have d:prog.cellsOf 3=1:=by kernel_rfl
 rw[hc]at hl
 match cs,hl with
 |[c0,c1,c2],_=>
  match xs,b with
  |[y0,y1,y2],_=>
   have j:DataW.trod enc prog w base spare held n 3 (List.take (prog.cellsOf 3) (List.drop 0 [c0,c1,c2]))=some y0:=c 0 _ rfl;rw[d]at j;have k:DataW.trod enc prog w base spare held n 3 (List.take (prog.cellsOf 3) (List.drop 1 [c0,c1,c2]))=some y1:=c 1 _ rfl;rw[d]at k;have l:DataW.trod enc prog w base spare held n 3 (List.take (prog.cellsOf 3) (List.drop 2 [c0,c1,c2]))=some y2:=c 2 _ rfl;rw[d]at l;obtain⟨q,e,_,m⟩:=DataW.trod_int underlying3 j;obtain⟨r,f,_,o⟩:=DataW.trod_int underlying3 k;obtain⟨s,i,_,p⟩:=DataW.trod_int underlying3 l;simp at e f i;subst e f i;exact⟨⟨q,r,s⟩,rfl,⟨pX m,pX o,pX p⟩⟩
theorem L6 {v:Value} {d:DataW H} {i:List MemPlace} (f:∃cs,v= .agg cs∧cs.size=prog.cellsOf 23) (h:DataW.Trod enc prog w base spare held 23 v d i):∃g:aI,v=g.v∧wO g:=by
 obtain⟨cs,rfl,_⟩:=f;obtain⟨b,c⟩:=h;obtain⟨g,e,a⟩:=JF c;refine⟨g, ?_,a⟩
 have:cs.toList=g.cells:=by simpa[Value.cells]using e
 show Value.agg cs=Value.agg g.cells.toArray
 rw[←this]
end
end Go.Proofs.YtadooplpfhdhcaaGreat
