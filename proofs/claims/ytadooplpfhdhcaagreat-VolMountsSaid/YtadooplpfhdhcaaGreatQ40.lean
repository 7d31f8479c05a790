/- What is refused: a disk of a wrong size, a wrong shape, a wrong root (chapters 8, 9 and 26). An epoch of one cell: its segment (chapter 26). The states of chapter 26's example. No program in sight. Walk of chapter 26's example. -/
import Derived.Test.YtadooplpfhdhcaaGreatQ31
import Derived.Test.YtadooplpfhdhcaaGreatQ24
import Derived.Test.YtadooplpfhdhcaaGreatQ20
import Derived.Test.YtadooplpfhdhcaaGreatQ25
import Derived.Test.YtadooplpfhdhcaaGreatShelf
import Derived.Sort.OwnSorted
import Derived.Test.YtadooplpfhdhcaaGreatQ6
import Derived.Test.YtadooplpfhdhcaaGreatQ5
import Derived.Lib.SmallJoins
import Derived.Deep.Fields
import Derived.Test.YtadooplpfhdhcaaGreatQ34
import Derived.Test.YtadooplpfhdhcaaGreatQ39
set_option linter.unusedSimpArgs false
set_option linter.unusedVariables false
set_option maxRecDepth 100000
set_option maxHeartbeats 4000000
namespace Go.Proofs.YtadooplpfhdhcaaGreat
open Go Go.RowKit
open Go.Lib (hid)
open Go.Proofs.Tryz
theorem Cj (n:Int) (w:World) (h:n<8∨1024<n):
  Calls prog 5 #[.int .i64 n] w fun e w'=>e= .returned (.tuple #[.pointer none, .int .i64 2])∧w=w':=by
 by_cases a:n<8
 ·go_enter func5,ntmps5
  go_wp2_with fail;go_ret2;exact⟨rfl,rfl⟩
 ·have b:1024<n:=h.resolve_left a
  clear h;go_enter func5,ntmps5;go_wp2_with fail;go_ret2;exact⟨rfl,rfl⟩
theorem Cm (g:aH) (w:World) (x:¬cA g):
  Calls prog 29 #[g.v] w fun e w'=>e= .returned (.int .i64 2)∧Below w.heap.size w w':=by
 obtain⟨b,l,f⟩:=g
 have h:b<8∨1024<b∨l<1∨4096<l∨f<0∨4294967295<f:=by
  by_cases q:b<8
  ·exact .inl q
  by_cases r:1024<b
  ·exact .inr (.inl r)
  by_cases s:l<1
  ·exact .inr (.inr (.inl s))
  by_cases t:4096<l
  ·exact .inr (.inr (.inr (.inl t)))
  by_cases u:f<0
  ·exact .inr (.inr (.inr (.inr (.inl u))))
  exact .inr (.inr (.inr (.inr (.inr (Int.not_le.1 (fun y=>x ⟨by show 8≤b;omega,by show b≤1024;omega,by show 1≤l;omega,by show l≤4096;omega,by show 0≤f;omega,by show f<4294967296;omega⟩))))))
 clear x
 by_cases q:b<8
 ·clear h
  go_enter func29,ntmps29
  go_wp2_with (first
   |((with_reducible refine ae 23 (.tmp 0) (aH.cells ⟨b,l,f⟩) (some 1) ?hgd ?ho ?hd ?hx ?_);(case hgd|ho|hd|hx=>rfl);(intro j o d a c p;have k:=a.cell (i:=0) rfl;have m:=a.cell (i:=1) rfl;have n:=a.cell (i:=2) rfl))
   |fail)
  go_ret;exact⟨rfl,c.mono d⟩
 by_cases r:1024<b
 ·clear h
  go_enter func29,ntmps29
  go_wp2_with (first
   |((with_reducible refine ae 23 (.tmp 0) (aH.cells ⟨b,l,f⟩) (some 1) ?hgd ?ho ?hd ?hx ?_);(case hgd|ho|hd|hx=>rfl);(intro j o d a c p;have k:=a.cell (i:=0) rfl;have m:=a.cell (i:=1) rfl;have n:=a.cell (i:=2) rfl))
   |fail)
  go_ret;exact⟨rfl,c.mono d⟩
 by_cases s:l<1
 ·clear h
  go_enter func29,ntmps29
  go_wp2_with (first
   |((with_reducible refine ae 23 (.tmp 0) (aH.cells ⟨b,l,f⟩) (some 1) ?hgd ?ho ?hd ?hx ?_);(case hgd|ho|hd|hx=>rfl);(intro j o d a c p;have k:=a.cell (i:=0) rfl;have m:=a.cell (i:=1) rfl;have n:=a.cell (i:=2) rfl))
   |fail)
  go_ret;exact⟨rfl,c.mono d⟩
 by_cases t:4096<l
 ·clear h
  go_enter func29,ntmps29
  go_wp2_with (first
   |((with_reducible refine ae 23 (.tmp 0) (aH.cells ⟨b,l,f⟩) (some 1) ?hgd ?ho ?hd ?hx ?_);(case hgd|ho|hd|hx=>rfl);(intro j o d a c p;have k:=a.cell (i:=0) rfl;have m:=a.cell (i:=1) rfl;have n:=a.cell (i:=2) rfl))
   |fail)
  go_ret;exact⟨rfl,c.mono d⟩
 by_cases u:f<0
 ·clear h
  go_enter func29,ntmps29
  go_wp2_with (first
   |((with_reducible refine ae 23 (.tmp 0) (aH.cells ⟨b,l,f⟩) (some 1) ?hgd ?ho ?hd ?hx ?_);(case hgd|ho|hd|hx=>rfl);(intro j o d a c p;have k:=a.cell (i:=0) rfl;have m:=a.cell (i:=1) rfl;have n:=a.cell (i:=2) rfl))
   |fail)
  go_ret;exact⟨rfl,c.mono d⟩
 have y:(4294967295:Int)<f:=by omega
 clear h;go_enter func29,ntmps29
 go_wp2_with (first
  |((with_reducible refine ae 23 (.tmp 0) (aH.cells ⟨b,l,f⟩) (some 1) ?hgd ?ho ?hd ?hx ?_);(case hgd|ho|hd|hx=>rfl);(intro j o d a c p;have k:=a.cell (i:=0) rfl;have m:=a.cell (i:=1) rfl;have n:=a.cell (i:=2) rfl))
  |fail)
 go_ret;exact⟨rfl,c.mono d⟩
theorem yr (d:Value) (g:aH) (root:ByteArray) (w:World) (h:¬root.size=32∨¬cA g):
  Calls prog 8 #[d,g.v, .string root] w fun e w'=>e= .returned (.tuple #[.pointer none, .int .i64 2])∧Below w.heap.size w w':=by
 by_cases k:root.size=32
 ·have t:=hid (h.resolve_left (fun hn=>hn k))
  have p:=hid k;clear h k;go_enter func8,ntmps8
  go_wp2_with (first
   |((with_reducible refine ae 23 (.tmp 1) g.cells (some 4) ?hgd ?ho ?hd ?hx ?_);(case hgd|ho|hd|hx=>rfl);(intro s y c f j n))
   |fail)
  refine(mI root _).mono ?_
  rintro e x ⟨m,b⟩;obtain⟨r,rfl,u⟩:=m.yes p.out;have o:=hid (f.below b f.lt);have a:=hid ((j.mono c).trans (b.mono (Nat.le_trans c (Nat.le_of_lt n))));clear f j c n b m u
  go_wp2_with (first
   |((with_reducible refine ao 23 (.tmp 4) s 0 g.cells _ (some 21) (o.out.range) underlying23 rfl bG ?hg ?ho ?hds ?hx ?_);(case ho|hg|hds|hx=>rfl))
   |fail)
  refine(Cm g _ t.out).mono ?_
  rintro e z ⟨rfl,l⟩;have i:=hid (a.trans (l.mono a.size));clear l;go_wp2_with fail;go_ret2;exact⟨rfl,i.out⟩
 ·have p:=hid k
  clear h k;go_enter func8,ntmps8
  go_wp2_with (first
   |((with_reducible refine ae 23 (.tmp 1) g.cells (some 4) ?hgd ?ho ?hd ?hx ?_);(case hgd|ho|hd|hx=>rfl);(intro s y c f j n))
   |fail)
  refine(mI root _).mono ?_
  rintro e x ⟨m,b⟩;have q:=m.no p.out;subst q;have a:=hid ((j.mono c).trans (b.mono (Nat.le_trans c (Nat.le_of_lt n))));clear f j c n b m;go_wp2_with fail;go_ret2;exact⟨rfl,a.out⟩
open Go.Maps Go.WideMaps
theorem I2 (i:ap) (v:ai) (x:ag) (c:ak) (u:bp v) (m:0≤v.epoch) (n:v.epoch≤4294967295) (q:j5 v.vers v.epoch=[x]) (t:x.slot=c.slot) (k:v.vers.length≤4096)
  (o:0≤c.slot) (p:c.slot<v.used) (hc:bh c) (s:c.gone=false) (b:0≤c.lba) (f:c.lba<4096) (hb:ah (v.d.shown (4+c.slot)) (cellL c)):DF i v 1 (tU v.epoch c):=by
 refine⟨by decide,by decide,pZ _ _,fun w a=>∃B,dK w a B 1 v.epoch (sC v.epoch c 1),fun h l=> ?_, ?_, ?_⟩
 ·refine(u6 i v v.epoch x c h l u m n q t k o p hc s b f hb).mono ?_
  rintro e y ⟨⟨a,B,r,g⟩,j⟩;exact⟨⟨a,r,B,g⟩,j⟩
 ·rintro h a ⟨B,g⟩
  exact u7 a B v.epoch c h g
 ·rintro h a ⟨B,g⟩
  exact xK a B v.epoch c h g b f
theorem xj (n:Nat) (v:Value) (i:Nat) (kb q:ByteArray):Calm (bz n v i kb q) n 0:=
 ⟨rfl,rfl,by show(((List.replicate n bT).set i kb).set 1 q).length=n;simp,fun j p a=>by simp[bz]at a,Nat.le_refl _⟩
def jg (key data kb q:ByteArray) (vv:Value):ai:=cH key data 1 0 12 4 0 0 (bz 12 vv 2 kb q)
theorem K6 (key a kb q:ByteArray) (b:Value):bp (jg key a kb q b):=by
 refine⟨⟨⟨?_, ?_, ?_, ?_, ?_, ?_⟩, ?_, ?_, ?_, ?_, ?_, ?_, ?_, ?_⟩, ?_, ?_,xj 12 b 2 kb q⟩<;>simp[jg,cH]
def eK (key data kb q:ByteArray) (vv:Value) (b1:ByteArray) (c1:Value):ai:=dP (jg key data kb q vv) 1 b1 c1
theorem sQ (key a kb q:ByteArray) (e:Value) (b:ByteArray) (c:Value):Calm (eK key a kb q e b c).d 12 1:=
 (xj 12 e 2 kb q).put (i:=4+0) (by decide) (by decide) c b
theorem GU (key a kb q:ByteArray) (d:Value) (b:ByteArray) (c:Value):bp (eK key a kb q d b c):=by
 refine⟨⟨⟨?_, ?_, ?_, ?_, ?_, ?_⟩, ?_, ?_, ?_, ?_, ?_, ?_, ?_, ?_⟩, ?_, ?_,sQ key a kb q d b c⟩<;>simp[eK,jg,cH,dP]
theorem xl (key a kb q:ByteArray) (c:Value) (b1:ByteArray) (b:Value):(eK key a kb q c b1 b).d.shown (4+0)=b1:=by
 exact(dr (bz 12 c 2 kb q) b (4+0) (4+0) b1).trans (if_pos rfl)
theorem GV (key a kb q:ByteArray) (d:Value) (b:ByteArray) (c:Value) (e:key.size=32):oa (eK key a kb q d b c):=by
 refine⟨GU key a kb q d b c,e, ?_, ?_, ?_, ?_,(show jJ []from fun j x f=>by simp at f),rfl, ?_, ?_, ?_, ?_, ?_, ?_⟩<;>simp[eK,jg,cH,dP]
theorem Ko (i:ap) (key a kb q:ByteArray) (e:Value) (c b:ByteArray) (d:Value) (hc:bh ⟨0,0,1,false,b⟩) (hb:ah c (cellL ⟨0,0,1,false,b⟩)):
  DF i (eK key a kb q e c d) 1 (tU 0 ⟨0,0,1,false,b⟩):=
 I2 i (eK key a kb q e c d) ⟨1,0,0⟩ ⟨0,0,1,false,b⟩ (GU key a kb q e c d) (by simp[eK,jg,cH,dP]) (by simp[eK,jg,cH,dP]) (by simp[eK,jg,cH,dP,j5]) rfl (by simp[eK,jg,cH,dP]) (show(0:Int)≤0 by decide) (by simp[eK,jg,cH,dP]) hc rfl (show(0:Int)≤1 by decide) (show(1:Int)<4096 by decide) (xl key a kb q e c d ▸ hb)
def mH (key data kb q:ByteArray) (vv:Value) (b1:ByteArray) (c1:Value) (s t bl nk kb2 q2 nb:ByteArray):ai:=
 {eK key data kb q vv b1 c1 with used:=(eK key data kb q vv b1 c1).used+1,last:=ev (eK key data kb q vv b1 c1) (eK key data kb q vv b1 c1).clock,d:=ff (eK key data kb q vv b1 c1) bl kb2 q2 nb,key:=nk,sealed:=(eK key data kb q vv b1 c1).sealed++[⟨aE (eK key data kb q vv b1 c1) 1 s,t⟩],epoch:=(eK key data kb q vv b1 c1).epoch+1,now:=(eK key data kb q vv b1 c1).clock}
theorem Ai (key a kb q:ByteArray) (h:Value) (c:ByteArray) (f:Value) (s t e i b g nb:ByteArray):Calm (mH key a kb q h c f s t e i b g nb).d 12 0:=
 ol (sQ key a kb q h c f) (by simp[eK,jg,cH,dP]) (by simp[eK,jg,cH,dP]) (by decide) e b g nb
theorem K7 (key a kb q:ByteArray) (h:Value) (c:ByteArray) (e:Value) (s t d f b g nb:ByteArray):bp (mH key a kb q h c e s t d f b g nb):=by
 refine⟨⟨⟨?_, ?_, ?_, ?_, ?_, ?_⟩, ?_, ?_, ?_, ?_, ?_, ?_, ?_, ?_⟩, ?_, ?_,(Ai key a kb q h c e s t d f b g nb).mono (Nat.zero_le _)⟩<;>simp[mH,eK,jg,cH,dP,ev]
theorem GW (key a kb q:ByteArray) (e:Value) (b1:ByteArray) (c:Value) (s t f h b g nb:ByteArray):(mH key a kb q e b1 c s t f h b g nb).d.shown (4+0)=b1:=by
 refine(ke (sQ key a kb q e b1 c) (by simp[eK,jg,cH,dP]) (by simp[eK,jg,cH,dP]) (by decide) f b g nb (4+0) (by decide)).trans ?_
 rw[if_neg (by simp[eK,jg,cH,dP])];exact xl key a kb q e b1 c
def rU (key data kb q:ByteArray) (vv:Value) (b1:ByteArray) (c1:Value) (s t bl nk kb2 q2 nb b2:ByteArray) (c2:Value):ai:=dP (mH key data kb q vv b1 c1 s t bl nk kb2 q2 nb) 1 b2 c2
theorem I3 (key a kb q:ByteArray) (l:Value) (c:ByteArray) (g:Value) (s t f j b k nb e:ByteArray) (h:Value):Calm (rU key a kb q l c g s t f j b k nb e h).d 12 1:=
 (Ai key a kb q l c g s t f j b k nb).put (i:=4+(0+1+1)) (by decide) (by decide) h e
theorem GX (key a kb q:ByteArray) (j:Value) (c:ByteArray) (f:Value) (s t e h b i nb d:ByteArray) (g:Value):bp (rU key a kb q j c f s t e h b i nb d g):=by
 refine⟨⟨⟨?_, ?_, ?_, ?_, ?_, ?_⟩, ?_, ?_, ?_, ?_, ?_, ?_, ?_, ?_⟩, ?_, ?_,(I3 key a kb q j c f s t e h b i nb d g).mono (by simp[rU,mH,eK,jg,cH,dP])⟩<;>simp[rU,mH,eK,jg,cH,dP,ev]
theorem EN (key a kb q:ByteArray) (h:Value) (b1:ByteArray) (e:Value) (s t c f b g nb i:ByteArray) (j:Value):(rU key a kb q h b1 e s t c f b g nb i j).d.shown (4+0)=b1:=
 (dr (mH key a kb q h b1 e s t c f b g nb).d j (4+(0+1+1)) (4+0) i).trans ((if_neg (by decide)).trans (GW key a kb q h b1 e s t c f b g nb))
theorem EO (key a kb q:ByteArray) (j:Value) (c:ByteArray) (f:Value) (s t e h b i nb b2:ByteArray) (g:Value):(rU key a kb q j c f s t e h b i nb b2 g).d.shown (4+2)=b2:=
 (dr (mH key a kb q j c f s t e h b i nb).d g (4+(0+1+1)) (4+2) b2).trans (if_pos (by decide))
theorem K8 (key a kb q:ByteArray) (i:Value) (c:ByteArray) (e:Value) (s t d f b g nb:ByteArray) (k:Nat) (x:ag) (j:(mH key a kb q i c e s t d f b g nb).vers[k]?=some x):cL x ⟨1,(mH key a kb q i c e s t d f b g nb).epoch,(mH key a kb q i c e s t d f b g nb).used⟩<0:=by
 have h:([⟨1,0,0⟩]:List ag)[k]?=some x:=j
 match k,h with
 |0,h=>obtain rfl:=Option.some.inj h;show cL ⟨1,0,0⟩ ⟨1,0+1,0+1+1⟩<0;decide
 |k+1,h=>simp at h
theorem oW {k:Nat} {x:ag} (h:([⟨1,0,0⟩,⟨1,1,2⟩]:List ag)[k]?=some x):(k=0∧x=⟨1,0,0⟩)∨(k=1∧x=⟨1,1,2⟩):=by
 match k,h with
 |0,h=>exact .inl ⟨rfl,(Option.some.inj h).symm⟩
 |1,h=>exact .inr ⟨rfl,(Option.some.inj h).symm⟩
 |k+2,h=>simp at h
theorem EP:mq [⟨1,0,0⟩,⟨1,1,2⟩] 1 0 ⟨1,0,0⟩:=by
 refine⟨⟨0,⟨by decide,fun t x d g=> ?_,fun t x d g=> ?_⟩,rfl⟩,rfl,fun i j a b e hb f c=> ?_⟩
 ·rcases oW d with⟨rfl,rfl⟩|⟨rfl,rfl⟩
  ·decide
  ·omega
 ·rcases oW d with⟨rfl,rfl⟩|⟨rfl,rfl⟩
  ·omega
  ·decide
 ·rcases oW e with⟨rfl,rfl⟩|⟨rfl,rfl⟩
  ·decide
  ·rcases oW hb with⟨rfl,rfl⟩|⟨rfl,rfl⟩
   ·omega
   ·exact c
theorem EQ:mq [⟨1,0,0⟩,⟨1,1,2⟩] 1 1 ⟨1,1,2⟩:=by
 refine⟨⟨1,⟨by decide,fun t x c g=> ?_,fun t x c g=> ?_⟩,rfl⟩,rfl,fun i j a b d hb f e=> ?_⟩
 ·rcases oW c with⟨rfl,rfl⟩|⟨rfl,rfl⟩<;>decide
 ·rcases oW c with⟨rfl,rfl⟩|⟨rfl,rfl⟩<;>omega
 ·rcases oW d with⟨rfl,rfl⟩|⟨rfl,rfl⟩<;>decide
theorem ER:prog.built 23 [(0, .int .i64 12),(1, .int .i64 4)]=some (aH.cells ⟨12,4,0⟩).toArray:=by kernel_rfl
theorem Kq (v:ai) (s t:ByteArray) (h:s.size=32) (i:t.size=32) (b:v.sealed=[]) (e:v.epoch=0) (hc:v.clock=0):
  ic (v.sealed++[⟨aE v 1 s,t⟩]) (v.sealed.length:Int)=(⟨0,⟨1,0,0,1,0,0,s,⟨#[]⟩⟩,⟨(List.replicate 32 (0:UInt8)).toArray⟩,t⟩,0):=by
 rw[b];have c:ByteArray.size (⟨#[]⟩:ByteArray)=0:=rfl;have d:ByteArray.size (⟨(List.replicate 32 (0:UInt8)).toArray⟩:ByteArray)=32:=rfl
 have g:fM [⟨aE v 1 s,t⟩] 0 ⟨aE v 1 s,t⟩=⟨0,⟨1,0,0,1,0,0,s,⟨#[]⟩⟩,⟨(List.replicate 32 (0:UInt8)).toArray⟩,t⟩:=by
  unfold fM aE bO;rw[e,hc]
  rfl
 have f:∀a:ByteArray,a.size=32→jv (⟨0,⟨1,0,0,1,0,0,s,⟨#[]⟩⟩,a,t⟩:bJ)=true:=by
  intro a j;simp[jv,aI,aW,h,i,c,j]
 have hc:iz [⟨aE v 1 s,t⟩] (([]:List aD).length:Int)=some ⟨aE v 1 s,t⟩:=by
  simp[iz,aE]
 unfold ic;rw[List.nil_append,hc]
 show(if jv (fM [⟨aE v 1 s,t⟩] 0 ⟨aE v 1 s,t⟩)=true then(fM [⟨aE v 1 s,t⟩] 0 ⟨aE v 1 s,t⟩,0)else(bJ.zero,2))= _
 rw[g,if_pos (f _ d)]
theorem GY {r c:ByteArray} {l:List UInt8} {k:List UInt8} {e u:Nat} (hc:ah c (dO l (dZ k e u l.length))) (a:ah r (dO c.data.toList (dZ k e u c.size))):ah r l:=by
 have b:c.size=l.length:=by rw[hc.size,fe]
 rw[b]at a;exact a.cast (by rw[show c.data.toList= _ from hc,vW])
theorem ou (w:World):
  Calls prog 7 #[] w fun e w'=>e= .returned (.bool true)∧Below w.heap.size w w':=by
 go_enter func7,ntmps7;go_wp2_with fail
 refine(show Calls prog 5 #[.int .i64 12] w _ from vO 12 w (by decide) (by decide)).mono ?_
 rintro e w1 ⟨⟨db,c,rfl,hd,U⟩,S⟩;have HD:=hid hd;have J:=hid U;have j:=hid S;clear hd U S
 go_wp2_with (first
  |((with_reducible refine au 23 ?partsg (aH.cells ⟨12,4,0⟩) ?hg ?ho ?hf ?_);(case hg|ho=>rfl);(case hf=>exact ER))
  |fail)
 refine(show Calls prog 8 #[.pointer (some ⟨db,0,none⟩),(⟨12,4,0⟩:aH).v, .string (⟨#[48,49,50,51,52,53,54,55,56,57,97,98,99,100,101,102,48,49,50,51,52,53,54,55,56,57,97,98,99,100,101,102]⟩:ByteArray)] w1 _ from qu db 12 0 4 c (⟨#[48,49,50,51,52,53,54,55,56,57,97,98,99,100,101,102,48,49,50,51,52,53,54,55,56,57,97,98,99,100,101,102]⟩:ByteArray) w1 ⟨by decide,by decide,by decide,by decide,by decide,by decide⟩ (by decide) HD.out).mono ?_
 rintro e w2 ⟨vb,jb,sb,xb,bb,cb,cc,m1,m2,m3,key,a,kb,q,rfl,td,tk,b3,tq,E,hv⟩;obtain⟨i,V⟩:∃i,i=nP vb jb sb db xb bb cb cc m1 m2 m3 none:=⟨_,rfl⟩;have HV:=hid (show al w2 i (jg key a kb q c)from by rw[V];exact hv.at);have bw:vb=i.vb:=by rw[V];rfl
 have bm:=hid (show i.rv= .pointer none from by rw[V];rfl);have bd:=hid (show key.size=32 from by rw[tk.size,gK]);have p:=hid (show a.size=16 from by rw[td.size,mw])
 have HF:=hid (show ∀x,x∈i.foot (jg key a kb q c).d→w.heap.size≤x from by
  rw[V];exact hv.foot_ge j.size (fun x hx=>(E.foot x hx).elim (J.out x) (fun h=>Nat.le_trans j.size h)))
 have z:=hid (show Below w.heap.size w w2 from E.turned.below j.out (fun x hx=>J.out x hx) j.size);clear td tk b3 tq E hv;clear V;subst bw;have ca:=hid (show ∀(l:List ag) (t:Nat) (x:ag),l=[]→l[t]?=some x→False from fun l t x hl hx=>by rw[hl]at hx;simp at hx);go_wp2_with fail
 refine(tA i (jg key a kb q c) 1 (⟨#[97]⟩:ByteArray) w2 HV.out (K6 key a kb q c) (by show(0:Int)<12-5;decide) (by decide) (by show(1:Int)<4;decide) (by decide) p.out (by show(0:Int)≤0;decide) (by show(0:Int)≤4294967295;decide) (by show(0:Nat)≤1048575;decide) (fun t x hx=>absurd hx (by show¬([]:List ag)[t]?=some x;simp))).mono ?_
 rintro e w3 ⟨rfl,g,k,H,f,aA,an,Z,W⟩;have L:=hid (show aJ w2 w3 i (jg key a kb q c) {i with xv:=k} (eK key a kb q c f g)from W);have a7:=hid (show ah H (dO [97] (dZ a.data.toList 0 0 [97].length))from aA);have j:=hid (show ah f (cellL ⟨0,0,1,false,H⟩)from an);have K:=hid (show bh ⟨0,0,1,false,H⟩from Z);clear aA an Z W;go_wp2_with fail
 refine(mX {i with xv:=k} (eK key a kb q c f g) 1 (tU 0 ⟨0,0,1,false,H⟩) w3 L.at' bm.out (GV key a kb q c f g bd.out) (Ko {i with xv:=k} key a kb q c f H g K.out j.out)).mono ?_
 rintro e w4 ⟨s,t,m,n,b,o,nb,sv,ts,tt,b0,tn,a1,b4,bt,he,X⟩;rw[Kq (eK key a kb q c f g) s t (by rw[ts.size,pZ]) (by rw[tt.size,di]) rfl rfl rfl]at he;obtain⟨G,B⟩:∃G,G=(⟨(List.replicate 32 (0:UInt8)).toArray⟩:ByteArray):=⟨_,rfl⟩;rw[←B]at he
 dsimp only[bJ.v]at he
 subst he;have M:=hid (show aJ w3 w4 {i with xv:=k} (eK key a kb q c f g) {i with xv:=k,sv:=sv} (mH key a kb q c f g s t m n b o nb)from X);clear ts tt b0 tn a1 b4 bt X B
 go_wp2_with (first
  |((with_reducible refine ab 84 _ jK (some 5) ?hgd ?ho ?hd ?_);(case hgd|ho|hd=>rfl);(intro b5 w5 Y B5 e5 z5))
  |((with_reducible refine aa 84 (.tmp 5) (.tmp 36) b5 bJ.zero.cells (bJ.cells ⟨0,⟨1,0,0,1,0,0,s,⟨#[]⟩⟩,G,t⟩) 84 B5 rfl dE (bJ.cells_one _) ?hgd ?ho ?hx ?hy ?_);(case hgd|ho|hx|hy=>rfl);(intro w6 B6 o6))
  |fail)
 have T:Below w4.heap.size w4 w6:=o6.below (e5.mono Y) Y;have bn:=hid B6;have cx:=hid Y;have O:=hid (M.below T);have be:=hid (M.at'.fresh Y);clear B5 e5 z5 B6 o6 Y T
 refine(tA {i with xv:=k,sv:=sv} (mH key a kb q c f g s t m n b o nb) 1 (⟨#[98]⟩:ByteArray) w6 O.at' (K7 key a kb q c f g s t m n b o nb) (by show(0+1+1:Int)<12-5;decide) (by decide) (by show(1:Int)<4;decide) (by decide) p.out (by show(0:Int)≤0+1;decide) (by show(0+1:Int)≤4294967295;decide) (by show(1:Nat)≤1048575;decide) (K8 key a kb q c f g s t m n b o nb)).mono ?_
 rintro e w7 ⟨rfl,A,y,p2,r,a0,aq,ad,F⟩;have N:=hid (show aJ w6 w7 {i with xv:=k,sv:=sv} (mH key a kb q c f g s t m n b o nb) {i with xv:=y,sv:=sv} (rU key a kb q c f g s t m n b o nb r A)from F);have a8:=hid (show ah p2 (dO [98] (dZ a.data.toList 1 2 [98].length))from a0);have a6:=hid (show ah r (cellL ⟨1,2,1,false,p2⟩)from aq);have a9:=hid (show bh ⟨1,2,1,false,p2⟩from ad);have Q:=hid (F.turned.blk bn.out be.out);clear a0 aq ad F;go_wp2_with fail
 refine(rB {i with xv:=y,sv:=sv} (rU key a kb q c f g s t m n b o nb r A) 1 0 ⟨1,0,0⟩ 0 0 1 H w7 N.at' (GX key a kb q c f g s t m n b o nb r A) p.out (by decide) (by show(1:Int)<4;decide) (by show(0:Int)≤0;decide) (by show(0:Int)≤0+1;decide) EP (by show(2:Nat)≤1048576;decide) ⟨by decide,by decide⟩ rfl rfl (by show(0:Int)<0+1+1+1;decide) (by decide) K.out (EN key a kb q c f g s t m n b o nb r A ▸ j.out)).mono ?_
 rintro e w8 ⟨⟨ra,rfl,a2⟩,C⟩;have bk:=hid (GY a7.out a2);have P:=hid (N.below C);have R:=hid (Q.below C Q.lt);clear a2 C;go_wp2_with fail
 refine(Du {i with xv:=y,sv:=sv} (rU key a kb q c f g s t m n b o nb r A) 1 ⟨#[]⟩ w8 P.at' [98] (fun wx hx=> ?_)).mono ?_
 ·refine(rB {i with xv:=y,sv:=sv} (rU key a kb q c f g s t m n b o nb r A) 1 1 ⟨1,1,2⟩ 1 2 1 p2 wx hx (GX key a kb q c f g s t m n b o nb r A) p.out (by decide) (by show(1:Int)<4;decide) (by show(0:Int)≤1;decide) (by show(1:Int)≤0+1;decide) EQ (by show(2:Nat)≤1048576;decide) ⟨by decide,by decide⟩ rfl rfl (by show(2:Int)<0+1+1+1;decide) (by decide) a9.out (EO key a kb q c f g s t m n b o nb r A ▸ a6.out)).mono ?_
  rintro e wy ⟨⟨rb,rfl,u⟩,bs⟩;exact⟨⟨rb,rfl,GY a8.out u⟩,bs⟩
 rintro e w9 ⟨⟨rb,rfl,u⟩,D⟩;have I:=hid (show Below w.heap.size w w9 from(L.trans (O.trans (P.below D))).turned.below z.out HF.out z.size);have x4:w9.cell? ⟨b5,4,none⟩=some (.int .i64 1):=(R.below D R.lt).cell (i:=4) rfl;have ea:(ra.toList==[97])=true:=bk.is rfl;have eb:(rb.toList==[98])=true:=u.is rfl;clear u D;go_wp2_with fail;go_ret;exact⟨rfl,I.out⟩
open Go.Sort
theorem GZ:dU:=by
 intro W v m xs a h j l
 rcases h.2 with⟨rfl,rfl⟩|⟨g,cap,cur,rfl,hb,hg,hc,hcm,hcs,hx⟩
 ·refine(slices_Sort_string_none none 0 a).mono ?_
  rintro e k ⟨rfl,rfl⟩;exact⟨rfl,Below.refl _ _⟩
 ·have hl:xs.length=m:=by have:=h.1;simpa using this
  have i:Holds encStr a g 0 ((xs.map fun s=>s.data.toList).toArray):=holds_of_block hg (by
   rw[List.length_map,hl,List.map_map];have d:=hx;rw[Nat.mul_one]at d;rw[d];refine List.map_congr_left fun s _=> ?_
   simp[encStr])
  have b:g<a.heap.size:=(Array.getElem?_eq_some_iff.1 hg).1;have c:(xs.map fun s=>s.data.toList).length=m:=by rw[List.length_map,hl]
  have f:=slices_Sort_string g 0 cap (xs.map fun s=>s.data.toList) a i b (by omega);rw[c]at f;refine f.mono ?_;rintro e k ⟨rfl,n,o,rfl⟩;exact⟨rfl,tG (Below.refl _ _) (grownBy_sorted _) hb j⟩
open Go.ChangeShapes Go.WideShapes Go.Deep
structure vD (g:aH):Prop where
 blocks:Fits g.blocks
 lbas:Fits g.lbas
 first:Fits g.first
section
variable {H:Type} {enc:TypeId×Value→H} {w:World} {base:Nat} {spare:Nat→Bool} {held:Bool}
theorem I4 {a:Nat} {cs:List Value} {x:DataW H×List MemPlace} (h:DataW.trod enc prog w base spare held a 23 cs=some x):∃g:aH,cs=g.cells∧vD g:=by
 obtain⟨xs,n,_,_,hl,b,c⟩:=DataW.trod_struct underlying23 h;have hc:prog.cellsOf 23=3:=by kernel_rfl
 have d:prog.cellsOf 3=1:=by kernel_rfl
 rw[hc]at hl
 match cs,hl with
 |[c0,c1,c2],_=>
  match xs,b with
  |[y0,y1,y2],_=>
   have j:DataW.trod enc prog w base spare held n 3 (List.take (prog.cellsOf 3) (List.drop 0 [c0,c1,c2]))=some y0:=c 0 _ rfl;rw[d]at j;have k:DataW.trod enc prog w base spare held n 3 (List.take (prog.cellsOf 3) (List.drop 1 [c0,c1,c2]))=some y1:=c 1 _ rfl;rw[d]at k;have l:DataW.trod enc prog w base spare held n 3 (List.take (prog.cellsOf 3) (List.drop 2 [c0,c1,c2]))=some y2:=c 2 _ rfl;rw[d]at l;obtain⟨q,e,_,m⟩:=DataW.trod_int underlying3 j;obtain⟨r,f,_,o⟩:=DataW.trod_int underlying3 k;obtain⟨s,i,_,p⟩:=DataW.trod_int underlying3 l;simp at e f i;subst e f i;exact⟨⟨q,r,s⟩,rfl,⟨oY m,oY o,oY p⟩⟩
theorem K9 {v:Value} {d:DataW H} {i:List MemPlace} (f:∃cs,v= .agg cs∧cs.size=prog.cellsOf 23) (h:DataW.Trod enc prog w base spare held 23 v d i):∃g:aH,v=g.v∧vD g:=by
 obtain⟨cs,rfl,_⟩:=f;obtain⟨b,c⟩:=h;obtain⟨g,e,a⟩:=I4 c;refine⟨g, ?_,a⟩
 have:cs.toList=g.cells:=by simpa[Value.cells]using e
 show Value.agg cs=Value.agg g.cells.toArray
 rw[←this]
end
theorem uB.below {w a:World} {i:ap} {v:ai} {m:AM} {log:List LE} {g:Int} {i':ap} (h:uB w i v m log g i') (hb:Below w.heap.size w a):uB a i v m log g i':=by
 obtain⟨b,c,f,d,e⟩:=h;exact⟨b,c,f,d.below hb,e⟩
theorem vE (W z gf:Int) (key:ByteArray) (v:Value) (l:List aG) (w:World) (h:gY w v l):
  Calls prog 3 #[(⟨W,z,gf⟩:aH).v, .string key,v] w fun e w'=>e= .returned (.bool true)∧Below w.heap.size w w':=by
 have HC:=hid h;have ce:=hid (fun(wx:World) (hb:Below w.heap.size w wx)=>EF ⟨W,z,gf⟩ v l wx (HC.below hb (Nat.le_refl _)));obtain⟨vp,vc,fw,a1⟩:=h.row.shape;subst fw;have c5:=hid a1;clear h a1;go_enter func3,ntmps3
 go_wp2_with (first
  |((with_reducible refine ae 23 (.tmp 0) (aH.cells ⟨W,z,gf⟩) (some 3) ?hgd ?ho ?hd ?hx ?_);(case hgd|ho|hd|hx=>rfl);(intro b3 w1 l1 B1 e1 z1;have c0:=B1.cell (i:=0) rfl))
  |fail)
 have a5:=hid B1;have y:=hid (e1.mono l1);have g2:=hid l1;clear B1 e1 l1 z1 c0
 by_cases hn:W<8∨1024<W
 ·refine(Cj W _ hn).mono ?_
  rintro e w' ⟨rfl,rfl⟩;clear hn
  go_wp2_with (first
   |((with_reducible refine ao 23 (.tmp 3) b3 0 (aH.cells ⟨W,z,gf⟩) _ (some 25) (a5.out.range) underlying23 rfl bG ?hg ?ho ?hds ?hx ?_);(case ho|hg|hds|hx=>rfl))
   |fail)
  refine(ce.out _ y.out).mono ?_
  rintro e w2 ⟨⟨q,rfl,hq⟩,D⟩;have A:=hid (y.trans (D.mono y.size));clear D hq
  cases q with
  |false=>
   go_wp2_with fail
   refine(ou _).mono ?_
   rintro e wz ⟨rfl,s⟩;have C:=hid (A.trans (s.mono A.size));clear s;go_wp2_with fail;go_ret;exact⟨rfl,C.out⟩
  |true=>
   go_wp2_with fail
   refine(ou _).mono ?_
   rintro e wz ⟨rfl,s⟩;have C:=hid (A.trans (s.mono A.size));clear s;go_wp2_with fail;go_ret;exact⟨rfl,C.out⟩
 ·obtain⟨n,rfl⟩:∃n:Nat,W=(n:Int):=⟨W.toNat,by omega⟩
  have bx:8≤n∧n≤1024:=by omega
  refine(vO n _ bx.1 bx.2).mono ?_
  rintro e w2 ⟨⟨db,dv,rfl,d5,d7⟩,D⟩;have T:=hid (a5.below D a5.lt);have A:=hid (y.trans (D.mono y.size));have ca:=hid d5;have cc:=hid (show ∀x,x∈(bj n dv).foot db→w1.heap.size≤x from d7);have c9:=hid D;clear D d5 d7 hn bx
  go_wp2_with (first
   |((with_reducible refine ao 23 (.tmp 3) b3 0 (aH.cells ⟨(n:Int),z,gf⟩) _ (some 25) (T.out.range) underlying23 rfl bG ?hg ?ho ?hds ?hx ?_);(case ho|hg|hds|hx=>rfl))
   |fail)
  refine(ce.out _ A.out).mono ?_
  rintro e w3 ⟨⟨q,rfl,hq⟩,N⟩;have b9:=hid (T.below N T.lt);have V:=hid (A.trans (N.mono A.size));have aA:=hid (ca.below N);have U:=hid (c9.trans (N.mono c9.size));have HQ:=hid hq;clear N hq
  cases q with
  |false=>
   go_wp2_with fail
   refine(ou _).mono ?_
   rintro e wz ⟨rfl,s⟩;have C:=hid (V.trans (s.mono V.size));clear s;go_wp2_with fail;go_ret;exact⟨rfl,C.out⟩
  |true=>
   go_wp2_with (first
    |((with_reducible refine ao 23 (.tmp 3) b3 0 (aH.cells ⟨(n:Int),z,gf⟩) _ (some 36) (b9.out.range) underlying23 rfl bG ?hg ?ho ?hds ?hx ?_);(case ho|hg|hds|hx=>rfl))
    |fail)
   by_cases Q:¬key.size=32∨¬cA ⟨(n:Int),z,gf⟩
   ·refine(yr _ ⟨(n:Int),z,gf⟩ key _ Q).mono ?_
    rintro e w4 ⟨rfl,d2⟩;have dg:=hid (V.trans (d2.mono V.size));clear d2 Q;go_wp2_with fail
    refine(ou _).mono ?_
    rintro e wz ⟨rfl,s⟩;have C:=hid (dg.trans (s.mono dg.size));clear s;go_wp2_with fail;go_ret;exact⟨rfl,C.out⟩
   ·obtain⟨E,P⟩:key.size=32∧cA ⟨(n:Int),z,gf⟩:=⟨Classical.not_not.1 (fun hh=>Q (.inl hh)),Classical.not_not.1 (fun hh=>Q (.inr hh))⟩
    clear Q;obtain⟨ep,rfl⟩:∃ep:Nat,gf=(ep:Int):=⟨gf.toNat,by have:=P.f0;simp only at this;omega⟩
    refine(qu db n ep z dv key _ P E aA.out).mono ?_
    rintro e w4 ⟨vb,jb,sb,xb,bb,cb,c2,m1,m2,m3,vk,vd,kb,q,rfl,a4,S,eg,tq,bv,b4⟩;obtain⟨i0,I⟩:∃i,nP vb jb sb db xb bb cb c2 m1 m2 m3 none=i:=⟨_,rfl⟩;obtain⟨v0,an⟩:∃x,cH vk vd 1 0 n z ep ep (bz n dv (2+ep % 2) kb q)=x:=⟨_,rfl⟩
    have cf:=hid (show aS v0 (AM.new ⟨(n:Int),z,(ep:Int)⟩ key) [] 1 from by
     rw[←an];exact aS.first_state P E S (by rw[S.size,gK]) (by rw[a4.size,mw]) dv eg tq)
    have c4:=hid (show mG w1 i0 v0 (AM.new ⟨(n:Int),z,(ep:Int)⟩ key) [] 1 w4 from by
     refine⟨by rw[←I,←an];exact b4.at,by rw[←I];rfl,cf.out, ?_,bv.turned.below U.out (fun x hx=>cc.out x hx) U.size⟩;rw[←I,←an];exact b4.foot_ge U.size (fun x hx=>(bv.foot x hx).elim (cc.out x) (fun h=>Nat.le_trans U.size h)))
    have R:i0.vb=vb:=by rw[←I];rfl
    have d6:i0.db=db:=by rw[←I];rfl
    rw[←R,←d6];have g1:=hid P;have go:=hid E;obtain⟨M0,bn⟩:∃M,AM.new ⟨(n:Int),z,(ep:Int)⟩ key=M:=⟨_,rfl⟩;have e6:=hid (show M0.geo=⟨(n:Int),z,(ep:Int)⟩∧M0.root=key from by rw[←bn];exact⟨rfl,rfl⟩);rw[bn]at c4;have J:=hid (show(n:Int)≤48∧z≤16∧l.length≤60 from by first|exact HQ.out rfl|exact HQ.out trivial|exact HQ.out);clear a4 S eg tq bv b4 I an R d6 P E bn cf ca aA T b9;go_wp2_with fail;go_loopw [46] (fun iv wr=>∃(k:Nat) (i:ap) (v:ai) (m:AM) (log:List LE),iv= .int .i64 (k:Int)∧(i0.vb=i.vb∧i0.db=i.db)∧k≤l.length∧Hid (mG w1 i v m log (1+(k:Int)) wr∧m.geo=⟨(n:Int),z,(ep:Int)⟩∧m.root=key)) (fun iv _=>l.length-(intOf iv).toNat)
    case atStart=>exact⟨0,i0,v0,_,[],rfl,⟨rfl,rfl⟩,Nat.zero_le _,hid ⟨c4.out,e6.out⟩⟩
    case round=>
     obtain⟨k,i,v,m,log,rfl,R,g8,HR⟩:=hrel;have t:=hid R;clear R
     by_cases bw:k<l.length
     ·have d9:(k:Int)<(l.length:Int):=by omega
      have eb:decide (k<l.length)=true:=decide_eq_true bw;have g7:(0:Int)≤(k:Int):=by omega
      obtain⟨c,hc⟩:∃c,l[k]?=some c:=⟨_,List.getElem?_eq_getElem bw⟩;obtain⟨g,o,fz,hg,ec⟩:=c5.out k c hc;subst fz;have fb:=hid (show wr.rangeAt g (o+k*7) c.cells from fun j u hu=>by rw[HR.out.1.bel.cell (by show g<w1.heap.size;have:=y.size;omega),y.cell (by show g<w.heap.size;exact hg)];exact ec j u hu);have fr:=hid (show Sz c.name.size from⟨(HC.long k c hc).2⟩);have cg:=hid (show 1+(k:Int)<1152921504606846976 from by have:=J.out.2.2;omega);clear ec hc hg
      go_wp2_with (first
       |((with_reducible refine ao 36 (.tmp 48) g (o+k*7) c.cells _ (some 49) fb.out underlying36 rfl kD ?hg ?ho ?hds ?hx ?_);(case ho|hg|hds|hx=>rfl))
       |((with_reducible refine ab 36 _ GF (some 12) ?hgd ?ho ?hd ?_);(case hgd|ho|hd=>rfl);(intro dT w5 l5 B5 e5 z5))
       |((with_reducible refine aa 36 (.tmp 12) (.tmp 49) dT (aG.cells ⟨0,0,0,0,⟨#[]⟩,⟨#[]⟩,none,0,0⟩) c.cells 36 B5 rfl kD (aG.one _) ?hgd ?ho ?hx ?hy ?_);(case hgd|ho|hx|hy=>rfl);(intro w6 B6 o6;have e4:=hid B6))
       |((with_reducible refine ao 36 (.tmp 12) dT 0 c.cells _ (some 51) (e4.out.range) underlying36 rfl kD ?hg ?ho ?hds ?hx ?_);(case ho|hg|hds|hx=>rfl))
       |fail)
      have f:=hid (HR.out.1.below (o6.below (e5.mono l5) l5));clear B5 e5 l5 z5 B6 o6;have a:=K0 f.vol f.rv f.is cg.out GZ fr.out;rw[←t.out.1]at a;refine a.mono ?_;clear a;rintro e w7 d4;obtain⟨⟨r,rfl⟩,i',v',a3,d0,a2,a0⟩:=f.next d4;have a7:=hid (show mG w1 i' v' (eQ m c).2 a3 (1+((k+1:Nat):Int)) w7 from by rw[show(1:Int)+((k+1:Nat):Int)=1+(k:Int)+1 by omega];exact d0);have dc:=hid (And.intro (t.out.1.trans a2.symm) (t.out.2.trans a0.symm))
      have e7:=hid (show(eQ m c).2.geo=⟨(n:Int),z,(ep:Int)⟩∧(eQ m c).2.root=key from by
       have h1:=J6 m c;rw[h1.1,h1.2];exact HR.out.2)
      clear d4 d0 a2 a0;have fI:wrap64 ((k:Int)+1)=(k:Int)+1:=IntWalk.wrap64_in _ (by have:=J.out.2.2;omega);have ha:IntKind.i64.wrap ((k:Int)+1)=(k:Int)+1:=by rw[IntWalk.i64_left];exact fI
      go_wp2_with fail;go_roundw
      case rel=>exact⟨k+1,i',v',_,a3,by go_num,dc.out,by omega,hid ⟨a7.out,e7.out⟩⟩
      case measure=>simp[intOf];omega
     ·have d9:¬(k:Int)<(l.length:Int):=by omega
      have eb:decide (k<l.length)=false:=decide_eq_false bw;have p:=hid HR.out.1;obtain⟨G,hG⟩:∃G:Int,1+(k:Int)=G:=⟨_,rfl⟩;have ci:=hid (show G<1152921504606846976 from by have:=J.out.2.2;omega);rw[hG]at p;clear hG HR;go_wp2_with fail;have hM:=p.is.may ci.out;have a:=uc i v _ p.vol p.is.ok hM.c0 hM.t1 hM.gen;rw[←t.out.1]at a;refine a.mono ?_;clear a hM;rintro e w5 ⟨rfl,q,tq,ad⟩;have a6:=hid (show mG w1 i (iD v v.clock q) m log (G+1) w5 from⟨ad.at',p.rv,p.is.sync ci.out tq,fun x hx=>(ad.foot x hx).elim (p.foot x) (fun hh=>Nat.le_trans p.bel.size hh),ad.turned.belowAll p.bel p.bel.size p.foot⟩);have B:=hid (show(iD v v.clock q).last.tail=(iD v v.clock q).used∧(iD v v.clock q).last.clock=(iD v v.clock q).clock∧(iD v v.clock q).d.cs=[]from⟨rfl,rfl,rfl⟩);clear ad tq
      generalize iD v v.clock q=u at a6 B
      go_wp2_with fail;have a:=lw i u _ a6.vol;rw[←t.out.1]at a;refine a.mono ?_;clear a;rintro e w6 ⟨rfl,ef⟩;have f:=hid (show mG w1 i u m log (G+1) w6 from by rw[ef];exact a6.below (Below.refl _ _).drew);clear ef;go_wp2_with fail;have a:=ru i.db u.d _ f.vol.disk (by rw[B.out.2.2];exact Nat.zero_le _) (by have h9:=f.is.ok.calm.len;have:=f.is.ok.sup.geo.b1;omega);rw[←t.out.2]at a;refine a.mono ?_;clear a;rintro e w7 ⟨⟨s1,s2,rfl,b0,Z⟩,d3⟩;rw[B.out.2.2]at Z;obtain⟨p1,c1,rfl⟩:=az b0;obtain⟨p2,c2,rfl⟩:=lX Z;have a7:=hid (f.below d3);have c7:=hid (gp b0);have c8:=hid (gp Z);have cW:=hid (show u.d.bs.length≤1024 from by have h9:=f.is.ok.calm.len;have:=f.is.ok.sup.geo.b1;omega);clear b0 Z d3
      go_wp2_with (first
       |((with_reducible refine ab 48 _ CH (some 16) ?hgd ?ho ?hd ?_);(case hgd|ho|hd=>rfl);(intro bm wa la Ba ea za))
       |((with_reducible refine aa 48 (.tmp 16) (.tmp 64) bm [.slice none 0 0, .slice none 0 0] [.slice p1 u.d.bs.length c1, .slice p2 0 c2] 48 Ba rfl qN (J9 _ _ _ _ _ _) ?hgd ?ho ?hx ?hy ?_);(case hgd|ho|hx|hy=>rfl);(intro w8 B8 o8))
       |fail)
      have X:Below w7.heap.size w7 w8:=o8.below (ea.mono la) la;have a8:=hid (a7.below X);have ds:=hid B8;have ck:=hid (own_below X c7.out);have cu:=hid (own_below X c8.out);clear Ba ea la za B8 o8 X c7 c8;have a:=uC a8.vol a8.is B.out.1 B.out.2.1 GZ;rw[←t.out.2]at a;refine a.mono ?_;clear a;rintro e w9 ⟨⟨i',rfl,d1⟩,O⟩;have e9:=hid (a8.below O);have bd:=hid (ds.below O ds.lt);have cl:=hid (own_below O ck.out);have cv:=hid (own_below O cu.out);have eN:=hid d1;clear O d1;go_upto_region 17 with fail;refine hb (fun wx=>wx.rangeAt bm 0 [.slice p1 u.d.bs.length c1, .slice p2 0 c2]) (bd.drew.range) fun b=> ?_
      obtain⟨wa,aq⟩:∃wx,wx=w9.drew:=⟨_,rfl⟩;have F:Below w9.heap.size w9 wa:=by rw[aq];exact(Below.refl _ _).drew
      have c6:=hid (e9.below F);have dt:=hid (bd.below F bd.lt);have cm:=hid (own_below F cl.out);have cw:=hid (own_below F cv.out);have e0:=hid (eN.below F);rw[←aq];rw[←aq]at b;clear aq F;refine hp 0 ?_;refine hp 1 ?_;refine hp 2 ?_;refine hp 3 ?_;refine hp 4 ?_;refine hp 5 ?_;refine hp 6 ?_;refine hl 7 48 bm 0 ([.slice p1 u.d.bs.length c1, .slice p2 0 c2]) (fun w h=>h) underlying48 qN ?_;refine hp 8 ?_;refine hc 9 fun K L=> ?_
      go_simp;have a:=ru i.db u.d _ c6.vol.disk (by rw[B.out.2.2];exact Nat.zero_le _) (by have:=cW.out;omega);rw[←t.out.2]at a;refine a.mono ?_;clear a;rintro e wb ⟨⟨s3,s4,rfl,ee,b2⟩,H⟩;rw[B.out.2.2]at b2;have fd:=hid (c6.below H);have be:=hid (dt.below H dt.lt);have co:=hid (own_below H cm.out);have cx:=hid (own_below H cw.out);have cy:=hid (gp ee);have cz:=hid (gp b2);have e2:=hid (e0.below H);clear H ee b2
      (try go_wp2_with fail)
      refine L.out _ _ (be.range) fun _=> ?_
      clear L K b;rename_i b
      (try go_frame)
      refine hc 10 fun K L=> ?_
      go_simp
      refine(EK (.slice p1 u.d.bs.length c1) s3 (.slice p2 0 c2) s4 0 0 0 0 u.d.bs.length u.d.bs _ co.out cy.out cx.out cz.out (by have:=cW.out;omega)).mono ?_
      rintro e wc ⟨rfl,Y⟩;have a9:=hid (fd.below Y);have bk:=hid (be.below Y be.lt);have e3:=hid (e2.below Y);clear Y
      (try go_wp2_with fail)
      refine L.out _ _ (bk.range) fun _=> ?_
      clear L K b;rename_i b
      (try go_frame)
      refine hp 11 ?_;refine hp 12 ?_;refine hp 13 ?_;refine hp 14 ?_;refine hc 15 fun K L=> ?_
      go_simp;obtain⟨q1,q2,v',q3,q4,q5,q6,q7,q8⟩:=e3.out;have a:=Ce _ i i' u v' m log (G+1) a9.vol q3 a9.is q4 q5 q6 q7;rw[←t.out.1]at a;refine a.mono ?_;clear a q1 q2 q3 q4 q5 q6 q7 q8;rintro e wd ⟨rfl,bo⟩;have fn:=hid (a9.below bo);have bl:=hid (bk.below bo bk.lt);clear bo
      (try go_wp2_with fail)
      refine L.out _ _ (bl.range) fun _=> ?_
      clear L K b;rename_i b
      (try go_frame)
      refine hp 16 ?_;refine hp 17 ?_;refine hc 18 fun K L=> ?_
      go_simp
      refine(ou _).mono ?_
      rintro e we ⟨rfl,bt⟩;have fo:=hid (fn.below bt);have fs:=hid (bl.below bt bl.lt);clear bt
      (try go_wp2_with fail)
      refine L.out _ _ (fs.range) fun _=> ?_
      clear L K b;rename_i b
      (try go_frame)
      refine hp 19 ?_;refine hp 20 ?_;refine hd ?_;clear b;go_wp2_with fail;go_ret;exact⟨rfl,y.trans (fo.bel.mono y.size)⟩
theorem yt (g:aH) (key:ByteArray) (v:Value) (l:List aG) (w:World) (a:vD g) (h:gY w v l):Calls prog 3 #[g.v, .string key,v] w fun e w'=>e= .returned (.bool true)∧Below w.heap.size w w':=
 vE g.blocks g.lbas g.first key v l w h
end Go.Proofs.YtadooplpfhdhcaaGreat
