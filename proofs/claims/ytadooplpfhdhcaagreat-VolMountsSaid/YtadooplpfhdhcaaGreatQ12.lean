/- Open (chapter 25), of a disk that is right. A volume that is none, and its looks; a ring's key (chapter 26). A volume is mounted of a disk whose journal has no block yet (chapter 26). Versions (chapter 14): how they stand. No program in sight. -/
import Derived.Test.YtadooplpfhdhcaaGreatQ10
import Derived.Test.YtadooplpfhdhcaaGreatQ11
import Derived.Test.YtadooplpfhdhcaaGreatQ7
import Derived.Test.YtadooplpfhdhcaaGreatQ6
import Derived.Test.YtadooplpfhdhcaaGreatQ5
import Derived.Deep.RegionHeld3
import Derived.Deep.RegionWith
set_option linter.unusedSimpArgs false
set_option linter.unusedVariables false
set_option maxRecDepth 100000
set_option maxHeartbeats 4000000
namespace Go.Proofs.YtadooplpfhdhcaaGreat
open Go Go.RowKit
open Go.Lib (hid)
open Go.Proofs.Tryz
theorem yI {b:Func} {t u v x:Tmp} (h:b.results=#[.tmp t, .tmp u, .tmp v, .tmp x]) (a:Array Value) (P:Program) (w:World):
  (results b a).run P w= .ok (.tuple #[a.getD t undef,a.getD u undef,a.getD v undef,a.getD x undef]) w:=by
 simp[results,h,Sem.run_bind]
def tailV (d:am) (k:Nat):List ByteArray:=(List.range k).map fun(i:Nat)=>d.shown (4+(i:Int))
theorem pH (d:am) (k:Nat):(tailV d k).length=k:=by simp[tailV]
theorem C9 (d:am) (k:Nat):tailV d (k+1)=tailV d k++[d.shown (4+(k:Int))]:=by simp[tailV,List.range_succ]
theorem vQ (r n t ep:Nat) (f a b first:Int) (key:ByteArray) (d:am) (w:World) (h:aC w r d) (C:eL (⟨f,(t:Int),(ep:Int),a,⟨(n:Int),b,first⟩⟩:aF))
  (hd:d.down=false) (hc:d.cs.length≤4096) (hb:d.bs.length≤1024) (hn:d.bs.length=n) (q:∀i,4+t≤i→i<n→d.shown i=(⟨(List.replicate 4096 0).toArray⟩:ByteArray)) (bA:(if ep % 2=0 then d.shown 3 else d.shown 2)=(⟨(List.replicate 4096 0).toArray⟩:ByteArray))
  (hF:∀wx,aC wx r d→Calls prog 198 #[.pointer (some ⟨r,0,none⟩)] wx fun e w'=>e= .returned (.tuple #[(⟨f,(t:Int),(ep:Int),a,⟨(n:Int),b,first⟩⟩:aF).v, .string key, .int .i64 0])∧Below wx.heap.size wx w'):
  Calls prog 118 #[.pointer (some ⟨r,0,none⟩)] w fun e w'=>(∃O u lv,e= .returned (.tuple #[.pointer (some ⟨O,0,none⟩),lv, .string key, .int .i64 0])∧ac w' O (bR (.pointer (some ⟨u,0,none⟩)) r (⟨f,(t:Int),(ep:Int),a,⟨(n:Int),b,first⟩⟩:aF)) 165∧ac w' u (bL ⟨(n:Int),b,first⟩ (t:Int)) 242∧w'.ownsRow w.heap.size 9 1 lv t ((tailV d t).map .string)∧w.heap.size≤u∧u<O)∧Below w.heap.size w w':=by
 obtain⟨i0,hi,cf,cg,ci⟩:=info_parts sP;have bb:(d.bs.length:Int)=(n:Int):=by omega
 have d3:decide ((n:Int)=0)=false:=by have:=C.geo.b0;simp only at this;exact decide_eq_false (by omega)
 have c4:((n:Int)==0)=false:=by have:=C.geo.b0;simp only at this;exact beq_eq_false_iff_ne.2 (by omega)
 obtain⟨s,Hs⟩:∃s,Hid (s=(⟨f,(t:Int),(ep:Int),a,⟨(n:Int),b,first⟩⟩:aF)):=⟨_,rfl⟩;have l:=hid (show s.tail=(t:Int) by rw[Hs.out]);have W:=hid (show s.geo=(⟨(n:Int),b,first⟩:aH) by rw[Hs.out]);rw[←Hs.out]at hF;have b4:=hid bb;have E:=hid h;have F:=hid C;have HD:=hid hd;have HC:=hid hc;have HB:=hid hb;have HN:=hid hn;have b7:=hid q;have b9:=hid bA;have b2:=hid hF;have HT:=hid (show 4+t≤n from by have:=C.t1;simp only at this;omega);have b5:=hid (show n≤1024 from by omega);clear h C hd hc hb hn q bA hF bb;go_enter func118,ntmps118;go_wp2_with fail
 refine(oV r d _ E.out).mono ?_
 rintro e w' ⟨rfl,rfl⟩;rw[b4.out];go_wp2_with fail
 refine(uD r d _ E.out).mono ?_
 rintro e w' ⟨rfl,rfl⟩;rw[HD.out];go_wp2_with fail
 refine(b2.out _ E.out).mono ?_
 rintro e w1 ⟨rfl,X⟩;have K:=hid X;have bo:=hid (E.below X);clear X
 go_wp2_with (first
  |((with_reducible refine ab 163 _ cX (some 6) ?hgd ?ho ?hd ?_);(case hgd|ho|hd=>rfl);(intro b6 w2 l2 B2 e2 z2))
  |((with_reducible refine aa 163 (.tmp 6) (.tmp 27) b6 aF.zero.cells s.cells 163 B2 rfl aQ (cJ _) ?hgd ?ho ?hx ?hy ?_);(case hgd|ho|hx|hy=>rfl);(intro w3 B3 o3);(have q1:=B3.cell (i:=1) rfl))
  |((with_reducible refine ao 23 (.tmp 34) b6 4 s.geo.cells _ (some 35) (ow B3) underlying23 rfl bG ?hg ?ho ?hds ?hx ?_);(case ho|hg|hds|hx=>rfl))
  |fail)
 refine(yw s.geo s.tail _ (by rw[W.out];exact F.geo) (by rw[l.out];omega) (by have:=HT.out;rw[l.out,W.out];show(t:Int)≤(n:Int)-4;omega)).mono ?_
 rintro e w4 ⟨⟨u,rfl,Bs,ls⟩,Y⟩;have G:Below w1.heap.size w1 w3:=o3.below (e2.mono l2) l2;have I:=K.size;have z:=G.trans (Y.mono G.size);have b3:=hid (show w.heap.size≤u from Nat.le_trans I (Nat.le_trans G.size ls));have ds:=hid (show w.heap.size≤b6 from Nat.le_trans I l2);have R:=hid (B3.below Y B3.lt);have S:=hid Bs;have bt:=hid (bo.below z);have L:=hid (K.trans (z.mono I));clear q1 B2 B3 o3 e2 z2 l2 Bs ls Y G z I
 go_wp2_with (first
  |((with_reducible refine aj 163 (.tmp 6) b6 s.cells 163 _ R.out underlying163 rfl aQ ?hgd ?ho ?hx ?_);(case hgd|ho|hx=>rfl))
  |((with_reducible refine au 165 ?parts (bR (.pointer (some ⟨u,0,none⟩)) r s) ?hg ?ho ?hf ?_);(case hg|ho=>rfl);(case hf=>(obtain⟨f,c8,cc,a,⟨blocks,b,first⟩⟩:=s;kernel_rfl)))
  |((with_reducible refine ae 165 (.tmp 44) (bR (.pointer (some ⟨u,0,none⟩)) r s) (some 45) ?hgd ?ho ?hd ?hx ?_);(case hgd|ho|hd|hx=>rfl);(intro O w5 l5 B5 e5 z5))
  |fail)
 have A:Below w4.heap.size w4 w5:=e5.mono l5;have bd:=L.size;have b8:=hid (show u<O from Nat.lt_of_lt_of_le S.lt l5);have T:=hid B5;have a5:=hid (S.below A S.lt);have J:=hid (R.below A R.lt);have a2:=hid (bt.below A);have M:=hid (L.trans (A.mono bd));clear B5 e5 z5 l5 A bd
 refine(AN O r n t ep (.pointer (some ⟨u,0,none⟩)) f a b first d _ a2.out (by rw[←Hs.out];exact T.out) F.geo HD.out HC.out HB.out HN.out (by have:=F.e1;simp only at this;omega) HT.out b7.out b9.out).mono ?_
 rintro e w6 ⟨rfl,p⟩;have be:=M.size;have a3:=hid (T.below p T.lt);have a6:=hid (a5.below p a5.lt);have a0:=hid (J.below p J.lt);have bv:=hid (a2.below p);have x:=hid (M.trans (p.mono be));have q1:w6.cell? ⟨b6,1,none⟩=some (.int .i64 (t:Int)):=by rw[←l.out];exact a0.cell (i:=1) rfl
 clear p be;go_wp2_with fail;clear q1;go_loopw [13,53] (fun lv v wr=>∃k:Nat,k≤t∧v= .int .i64 k∧wr.ownsRow w6.heap.size 9 1 lv k ((tailV d k).map .string)∧Below w6.heap.size w6 wr) (fun _ v _=>t-(intOf v).toNat)
 case atStart=>exact⟨0,Nat.zero_le _,rfl,World.ownsRow_nil _ _ _ _,Below.refl _ _⟩
 case round=>
  obtain⟨k,hk,rfl,B,o⟩:=hrel;obtain⟨lp,lc,rfl⟩:=az B;have N:=hid B;have g:=hid o;have a4:=hid (a3.below o a3.lt);have bx:=hid (bv.below o);clear B o
  by_cases d2:k<t
  ·have c2:(k:Int)<(t:Int):=by omega
   have d1:k≤1024:=by have:=b5.out;have:=HT.out;omega
   go_wp2_with fail
   refine(iU O r (.pointer (some ⟨u,0,none⟩)) (⟨f,(t:Int),(ep:Int),a,⟨(n:Int),b,first⟩⟩:aF) (k:Int) _ (by rw[←Hs.out];exact a4.out) F.geo (by omega) (by have:=HT.out;show(k:Int)<(n:Int)-4;omega)).mono ?_
   rintro e wa ⟨rfl,H⟩;have bw:=hid (bx.below H);have U:=hid (own_below H N.out);have c:=hid (g.trans (H.mono g.size));clear H;obtain⟨m,hm⟩:∃m,4+k=m:=⟨_,rfl⟩;have e4:(4+(k:Int))=(m:Int):=by omega
   rw[e4];have HM:=hid hm;have b1:=hid e4;clear hm e4;go_wp2_with fail
   refine(eX r d _ bw.out HD.out m (by have:=HT.out;have:=HN.out;have:=HM.out;omega) HC.out HB.out).mono ?_
   rintro e w' ⟨rfl,rfl⟩;obtain⟨sh,q⟩:∃s,d.shown (m:Int)=s:=⟨_,rfl⟩;rw[q];have a7:=hid q;clear q;have P:=U.out
   go_wp2_with (first
    |((with_reducible refine bi 45 9 1 ?parts66 [.string sh] (.string ⟨#[]⟩) 1 16 (some 66) underlying45 sP (by omega) (by omega) ?hgd ?ho ?hd ?hf ?_);(case hgd|ho|hd=>rfl);(case hf=>kernel_rfl);(intro g2 w7 l7 B7 e7 z7);(have D:=own_below (e7.mono l7) P))
    |(at_builtin;refine ii _ _ 45 rfl rfl i0 (.string ⟨#[]⟩) 16 underlying45 hi cf cg ci rfl (by decide) rfl D ⟨g2,0,none⟩ 1 1 [.string sh] rfl rfl (bI B7) (by intro v hv;simp at hv;subst hv;rfl) (by unfold maxLen;omega) (by omega) (by have:=c.size;have:=z7;omega) ?_;intro v' w8 Q y ad)
    |fail)
   have Z:Below w6.heap.size w6 w7:=c.trans ((e7.mono l7).mono c.size);have a1:=hid (Z.grown y Z.size (fun j hj=>(D.lt j hj).1));have V:=hid Q;clear Z y ad Q D P B7 e7 z7 l7;go_roundw
   case rel=>exact⟨k+1,by omega,by go_num,by rw[C9,List.map_append];rw[show d.shown (4+(k:Int))=sh by rw[b1.out];exact a7.out];exact V.out,a1.out⟩
   case measure=>simp[intOf];omega
  ·obtain rfl:k=t:=by omega
   go_wp2_with fail
   (try simp only[Exit.inBlock,Exit.then]);refine bodyPost_ret (yI rfl _ _ _) rfl ⟨⟨O,u,_,rfl,by rw[←Hs.out];exact a4.out,by rw[←W.out,←l.out];exact a6.below g.out a6.lt,own_base N.out x.size,b3.out,b8.out⟩,x.trans (g.mono x.size)⟩
def Ju:List Value:=[.pointer none, .string ⟨#[]⟩, .string ⟨#[]⟩, .pointer none, .slice none 0 0, .pointer none, .pointer none, .pointer none]
def uL (w:World) (v:Value):Prop:=v= .pointer none∨∃vb,v= .pointer (some ⟨vb,0,none⟩)∧ac w vb Ju 104
theorem uL.below {w a:World} {v:Value} (h:uL w v) (hb:Below w.heap.size w a):uL a v:=
 h.imp id fun⟨vb,h1,h2⟩=>⟨vb,h1,h2.below hb h2.lt⟩
theorem ox {w:World} {b c:Nat} {sv:Value} {s:aF} {t:TypeId} (h:ac w b (bR sv c s) t):w.rangeAt b 2 s.cells:=by
 intro j v a
 match j,a with
 |0,a=>simp[aF.cells]at a;subst a;exact h.cell (i:=2) rfl
 |1,a=>simp[aF.cells]at a;subst a;exact h.cell (i:=3) rfl
 |2,a=>simp[aF.cells]at a;subst a;exact h.cell (i:=4) rfl
 |3,a=>simp[aF.cells]at a;subst a;exact h.cell (i:=5) rfl
 |4,a=>simp[aF.cells]at a;subst a;exact h.cell (i:=6) rfl
 |5,a=>simp[aF.cells]at a;subst a;exact h.cell (i:=7) rfl
 |6,a=>simp[aF.cells]at a;subst a;exact h.cell (i:=8) rfl
 |j+7,a=>simp[aF.cells]at a
theorem fW (g o:Nat) (sv:Value) (f d b a blocks c first:Int) (w:World) (h:ac w g (bR sv o ⟨f,d,b,a,⟨blocks,c,first⟩⟩) 165):
  Calls prog 121 #[.pointer (some ⟨g,0,none⟩)] w fun e w'=>e= .returned (.agg #[.int .i64 f, .int .i64 d, .int .i64 b, .int .i64 a, .int .i64 blocks, .int .i64 c, .int .i64 first])∧Below w.heap.size w w':=by
 go_enter func121,ntmps121
 go_wp2_with (first
  |((with_reducible refine ab 163 _ cX (some 2) ?hgd ?ho ?hd ?_);(case hgd|ho|hd=>rfl);(intro n q i k j s);(have m:=ox (h.below (j.mono i) h.lt)))
  |((with_reducible refine ao 163 (.tmp 8) g 2 (aF.cells ⟨f,d,b,a,⟨blocks,c,first⟩⟩) _ (some 9) m underlying163 rfl aQ ?hg ?ho ?hds ?hx ?_);(case ho|hg|hds|hx=>rfl))
  |((with_reducible refine aa 163 (.tmp 2) (.tmp 9) n aF.zero.cells (aF.cells ⟨f,d,b,a,⟨blocks,c,first⟩⟩) 163 k rfl aQ (cJ _) ?hgd ?ho ?hx ?hy ?_);(case hgd|ho|hx|hy=>rfl);(intro r l p))
  |fail)
 (try simp only[Exit.inBlock,Exit.then]);refine bodyPost_ret (aY rfl _ _ l.range rfl underlying163 rfl aQ) rfl ⟨rfl,p.below (j.mono i) i⟩
theorem Da (a d m:Nat) (b:Value) (p:Option Addr) (c:Nat) (w:World) (h:ac w a [.pointer (some ⟨d,0,none⟩),b, .map (some m), .slice p 0 c] 205):
  Calls prog 123 #[.pointer (some ⟨a,0,none⟩)] w fun e w'=>e= .returned (.int .i64 0)∧w=w':=by
 have f:=h.cell (i:=3) rfl;go_enter func123,ntmps123;go_wp2_with fail;go_step3;go_wp2_with fail;go_step3;go_wp2_with fail;go_loopw [12] (fun v wr=>v= .int .i64 0∧w=wr) (fun _ _=>0)
 case atStart=>exact⟨rfl,rfl⟩
 case round=>
  obtain⟨rfl,rfl⟩:=hrel;go_wp2_with fail;rw[Exit.noGoto_ret];go_ret;exact⟨rfl,rfl⟩
theorem AP (a b m:Nat) (d f:Value) (p:Option Addr) (c:Nat) (w:World) (h:ac w a [.pointer (some ⟨b,0,none⟩),d, .map (some m),f] 205) (j:w.cell? ⟨b,4,none⟩=some (.slice p 0 c)):
  Calls prog 125 #[.pointer (some ⟨a,0,none⟩)] w fun e w'=>e= .returned (.int .i64 0)∧w=w':=by
 have g:=h.cell (i:=0) rfl;go_enter func125,ntmps125;go_wp2_with fail;go_loopw [13] (fun v wr=>v= .int .i64 0∧w=wr) (fun _ _=>0)
 case atStart=>exact⟨rfl,rfl⟩
 case round=>
  obtain⟨rfl,rfl⟩:=hrel;go_wp2_with fail;go_ret;exact⟨rfl,rfl⟩
theorem xx (a d m:Nat) (b:Value) (p:Option Addr) (c:Nat) (w:World) (h:ac w a [.pointer (some ⟨d,0,none⟩), .slice p 0 c, .map (some m),b] 205):
  Calls prog 126 #[.pointer (some ⟨a,0,none⟩)] w fun e w'=>e= .returned (.int .i64 0)∧w=w':=by
 have f:=h.cell (i:=1) rfl;go_enter func126,ntmps126;go_wp2_with fail;go_loopw [14] (fun v wr=>v= .int .i64 0∧w=wr) (fun _ _=>0)
 case atStart=>exact⟨rfl,rfl⟩
 case round=>
  obtain⟨rfl,rfl⟩:=hrel;go_wp2_with fail;go_loopw [3,39] (fun n v wr=>n= .int .i64 0∧v= .int .i64 0∧w=wr) (fun _ _ _=>0)
  case atStart=>exact⟨rfl,rfl,rfl⟩
  case round=>
   obtain⟨rfl,rfl,rfl⟩:=hrel;go_wp2_with fail;go_ret;exact⟨rfl,rfl⟩
structure fJ (w:World) (lo vb jb sb db xb bb cb c2 m1 m2 m3:Nat) (ro:Option Addr) (key data:ByteArray) (gen clock n lbas first ep:Int) (d:am):Prop where
 vol:ac w vb [.pointer (some ⟨jb,0,none⟩), .string key, .string data, .pointer (some ⟨xb,0,none⟩), .slice none 0 0, .pointer (some ⟨bb,0,none⟩), .pointer (some ⟨cb,0,none⟩), .pointer ro] 104
 jour:ac w jb (bR (.pointer (some ⟨sb,0,none⟩)) db ⟨gen,0,ep,clock,⟨n,lbas,first⟩⟩) 165
 space:ac w sb (bL ⟨n,lbas,first⟩ 0) 242
 disk:aC w db d
 index:ac w xb [.bool true, .slice none 0 0] 238
 book:ac w bb (aT c2 first ep m1 m2 m3) 193
 bclock:ac w c2 [.bool true, .int .i64 0] 188
 clock:ac w cb [.bool true, .int .i64 clock] 188
 maps:bf w m1 m2 m3 0 (.map []) (.map []) (.map [])
 o:lo≤sb∧sb<jb∧jb<xb∧xb<vb∧vb<c2∧vb<bb∧bb<cb∧c2<cb∧bb≠c2
 om:lo≤m1∧lo≤m2∧lo≤m3
theorem AQ (db n ep:Nat) (ro:Option Addr) (O o F first:Int) (key z:ByteArray) (d:am) (w:World) (h:aC w db d) (eN:z.size=16) (gc:first=(ep:Int)) (e0:eL (⟨O,((0:Nat):Int),(ep:Int),o,⟨(n:Int),F,first⟩⟩:aF))
  (hd:d.down=false) (hc:d.cs.length≤4096) (hb:d.bs.length≤1024) (hn:d.bs.length=n) (go:∀i,4≤i→i<n→d.shown i=(⟨(List.replicate 4096 0).toArray⟩:ByteArray)) (bA:(if ep % 2=0 then d.shown 3 else d.shown 2)=(⟨(List.replicate 4096 0).toArray⟩:ByteArray))
  (hF:∀wx,aC wx db d→Calls prog 198 #[.pointer (some ⟨db,0,none⟩)] wx fun e w'=>e= .returned (.tuple #[(⟨O,((0:Nat):Int),(ep:Int),o,⟨(n:Int),F,first⟩⟩:aF).v, .string key, .int .i64 0])∧Below wx.heap.size wx w'):
  Calls prog 46 #[.pointer (some ⟨db,0,none⟩), .string z, .pointer ro] w fun e w'=>(∃vb jb sb xb bb cb c2 m1 m2 m3,e= .returned (.tuple #[.pointer (some ⟨vb,0,none⟩), .int .i64 0])∧fJ w' w.heap.size vb jb sb db xb bb cb c2 m1 m2 m3 ro key z O o n F first ep d)∧Below w.heap.size w w':=by
 have cv:=@run_makeMap prog;have hi:(z.size:Int)=16:=by omega
 have hj:∀(a b c d e f g:Int) (w:World),Sem.run prog (Instr.field 163 (.agg #[.int .i64 a, .int .i64 b, .int .i64 c, .int .i64 d, .int .i64 e, .int .i64 f, .int .i64 g]) 4) w= .ok (.agg #[.int .i64 e, .int .i64 f, .int .i64 g]) w:=fun _ _ _ _ _ _ _ _=>by kernel_rfl
 have hk:∀(a b c d e f g:Int) (w:World),Sem.run prog (Instr.field 163 (.agg #[.int .i64 a, .int .i64 b, .int .i64 c, .int .i64 d, .int .i64 e, .int .i64 f, .int .i64 g]) 3) w= .ok (.int .i64 d) w:=fun _ _ _ _ _ _ _ _=>by kernel_rfl
 have hl:∀(a b c d e f g:Int) (w:World),Sem.run prog (Instr.field 163 (.agg #[.int .i64 a, .int .i64 b, .int .i64 c, .int .i64 d, .int .i64 e, .int .i64 f, .int .i64 g]) 2) w= .ok (.int .i64 c) w:=fun _ _ _ _ _ _ _ _=>by kernel_rfl
 have hq:∀(e f g:Int) (w:World),Sem.run prog (Instr.field 23 (.agg #[.int .i64 e, .int .i64 f, .int .i64 g]) 2) w= .ok (.int .i64 g) w:=fun _ _ _ _=>by kernel_rfl
 have ef:=hid h;have b5:=hid e0;have gt:=hid gc;have f2:=hid (vQ db n 0 ep O o F first key d w h e0 hd hc hb hn (by simpa using go) bA hF);clear h e0 hd hc hb hn go bA hF eN gc;go_enter func46,ntmps46;go_wp2_with fail;refine f2.mono ?_;rintro e wa ⟨⟨jb,sb,lv,rfl,hJ,hP,d9,gf,gl⟩,eD⟩;obtain⟨lp,lc,rfl⟩:=lX d9;have a1:=hid eD;have e7:=hid (ef.below eD);have bn:=hid hJ;have dt:=hid hP;have r:=hid (And.intro gf gl);clear eD hJ hP d9 gf gl f2;go_wp2_with fail
 refine(pC _).mono ?_
 rintro e wb ⟨⟨xb,rfl,hX,gn⟩,cg⟩;have dc:=hid (bn.below cg bn.lt);have dv:=hid (dt.below cg dt.lt);have b8:=hid hX;have e8:=hid (e7.below cg);have a2:=hid (a1.trans (cg.mono a1.size));have s:=hid (show jb<xb from Nat.lt_of_lt_of_le bn.lt gn);clear cg hX gn
 go_wp2_with (first
  |((with_reducible refine au 104 ?parts35 [.pointer (some ⟨jb,0,none⟩), .string key, .string z, .pointer (some ⟨xb,0,none⟩), .slice none 0 0, .pointer none, .pointer none, .pointer ro] ?hg ?ho ?hf ?_);(case hg|ho=>rfl);(case hf=>kernel_rfl))
  |((with_reducible refine ae 104 (.tmp 35) [.pointer (some ⟨jb,0,none⟩), .string key, .string z, .pointer (some ⟨xb,0,none⟩), .slice none 0 0, .pointer none, .pointer none, .pointer ro] (some 36) ?hgd ?ho ?hd ?hx ?_);(case hgd|ho|hd|hx=>rfl);(intro vb wc lc B2 e2 z2))
  |fail)
 have aA:Below wb.heap.size wb wc:=e2.mono lc;have t:=hid (show xb<vb from Nat.lt_of_lt_of_le b8.lt lc);have bo:=hid (dc.below aA dc.lt);have dT:=hid (dv.below aA dv.lt);have d5:=hid (b8.below aA b8.lt);have e9:=hid (e8.below aA);have a3:=hid (a2.trans (aA.mono a2.size));have d3:=hid B2;clear B2 e2 z2 lc aA
 refine(fW jb db (.pointer (some ⟨sb,0,none⟩)) O ((0:Nat):Int) (ep:Int) o (n:Int) F first _ bo.out).mono ?_
 rintro e wd ⟨rfl,P⟩;have dg:=hid (bo.below P bo.lt);have d0:=hid (dT.below P dT.lt);have d6:=hid (d5.below P d5.lt);have Y:=hid (d3.below P d3.lt);have fd:=hid (e9.below P);have M:=hid (a3.trans (P.mono a3.size));clear P;go_wp2_with fail
 refine(qK first _ (by have:=b5.geo.f0;simpa using this) (by have:=b5.geo.f1;simpa using this)).mono ?_
 rintro e we ⟨⟨bb,c2,m1,m2,m3,rfl,hB,ey,gm,a0,hM,gL,gM,gN⟩,Q⟩;have A:=hid (show vb<c2∧vb<bb from⟨Nat.lt_of_lt_of_le Y.lt a0,Nat.lt_of_lt_of_le Y.lt gm⟩);have fv:=hid (dg.below Q dg.lt);have f3:=hid (d0.below Q d0.lt);have f8:=hid (d6.below Q d6.lt);have Z:=hid (Y.below Q Y.lt);have fn:=hid (fd.below Q);have a4:=hid (M.trans (Q.mono M.size));have gD:=hid (show bb≠c2 from by intro h;subst h;have h1:=hB;have h2:=ey;unfold ac at h1 h2;rw[h1]at h2;simp[aT]at h2);have e6:=hid (show ac we bb (aT c2 first (ep:Int) m1 m2 m3) 193 from by have h:=hB;rw[show aT c2 first first m1 m2 m3=aT c2 first (ep:Int) m1 m2 m3 by rw[←gt.out]]at h;exact h);have ec:=hid ey;have ds:=hid hM;have gv:=hid (show w.heap.size≤m1∧w.heap.size≤m2∧w.heap.size≤m3 from by have:=M.size;omega);clear Q hB ey gm a0 hM gL gM gN;have k5:=Z.cell (i:=5) rfl;have f5:=Z.free 5;go_wp2_with fail;obtain⟨wf,an⟩:∃wf,we.setCell ⟨vb,5,none⟩ (.pointer (some ⟨bb,0,none⟩))=wf:=⟨_,rfl⟩;have u:af [vb] we wf:=by rw[←an];exact(af.refl _ _).setCell (.inl (by simp)) 5 _
 have ci:w.heap.size≤vb:=by have:=r.out;have:=s.out;have:=t.out;omega
 have d4:=hid (show ac wf vb [.pointer (some ⟨jb,0,none⟩), .string key, .string z, .pointer (some ⟨xb,0,none⟩), .slice none 0 0, .pointer (some ⟨bb,0,none⟩), .pointer none, .pointer ro] 104 from by rw[←an];exact(Z.set 5 _).ext rfl);have bt:=hid (u.blk fv.out (by have:=r.out;have:=s.out;have:=t.out;have:=A.out;(try have:=B.out);simp;omega));have d1:=hid (u.blk f3.out (by have:=r.out;have:=s.out;have:=t.out;have:=A.out;(try have:=B.out);simp;omega));have d7:=hid (u.blk f8.out (by have:=r.out;have:=s.out;have:=t.out;have:=A.out;(try have:=B.out);simp;omega));have c4:=hid (u.blk e6.out (by have:=r.out;have:=s.out;have:=t.out;have:=A.out;(try have:=B.out);simp;omega));have bd:=hid (u.blk ec.out (by have:=r.out;have:=s.out;have:=t.out;have:=A.out;(try have:=B.out);simp;omega));have fz:=hid (ds.turned u (by intro x hx hm;simp at hm;exact ds.ne Z.out x hx hm));have fo:=hid (fn.turned u (by intro x hx hm;simp at hm;subst hm;have:=ef.lt x hx;omega));have a5:=hid (u.below a4.out (by intro x hx;simp at hx;subst hx;exact ci) a4.size);rw[an];clear an u ci;clear k5 f5
 refine(fW jb db (.pointer (some ⟨sb,0,none⟩)) O ((0:Nat):Int) (ep:Int) o (n:Int) F first _ bt.out).mono ?_
 rintro e ht ⟨rfl,p⟩;have bv:=hid (bt.below p bt.lt);have b2:=hid (d1.below p d1.lt);have b9:=hid (d7.below p d7.lt);have b6:=hid (d4.below p d4.lt);have N:=hid (c4.below p c4.lt);have G:=hid (bd.below p bd.lt);have eq:=hid (fz.below p);have eg:=hid (fo.below p);have R:=hid (a5.trans (p.mono a5.size));clear p;go_wp2_with fail
 refine(kF o _ b5.c0 b5.c1).mono ?_
 rintro e gs ⟨⟨cb,rfl,hC,a0⟩,q⟩;have B:=hid (show bb<cb∧c2<cb from⟨Nat.lt_of_lt_of_le N.lt a0,Nat.lt_of_lt_of_le G.lt a0⟩);have en:=hid (bv.below q bv.lt);have et:=hid (b2.below q b2.lt);have ex:=hid (b9.below q b9.lt);have I:=hid (b6.below q b6.lt);have eb:=hid (N.below q N.lt);have cm:=hid (G.below q G.lt);have b1:=hid (eq.below q);have ej:=hid (eg.below q);have T:=hid (R.trans (q.mono R.size));have ee:=hid hC;clear q hC a0;have k6:=I.cell (i:=6) rfl;have f6:=I.free 6;have gw:=hid cv;clear cv;go_upto_region 9 with fail;obtain⟨wg2,L⟩:∃wg2,gs.setCell ⟨vb,6,none⟩ (.pointer (some ⟨cb,0,none⟩))=wg2:=⟨_,rfl⟩;have l:af [vb] gs wg2:=by rw[←L];exact(af.refl _ _).setCell (.inl (by simp)) 6 _
 have ci:w.heap.size≤vb:=by have:=r.out;have:=s.out;have:=t.out;omega
 have b7:=hid (show ac wg2 vb [.pointer (some ⟨jb,0,none⟩), .string key, .string z, .pointer (some ⟨xb,0,none⟩), .slice none 0 0, .pointer (some ⟨bb,0,none⟩), .pointer (some ⟨cb,0,none⟩), .pointer ro] 104 from by rw[←L];exact(I.set 6 _).ext rfl);have bw:=hid (l.blk en.out (by have:=r.out;have:=s.out;have:=t.out;have:=A.out;(try have:=B.out);simp;omega));have b3:=hid (l.blk et.out (by have:=r.out;have:=s.out;have:=t.out;have:=A.out;(try have:=B.out);simp;omega));have ca:=hid (l.blk ex.out (by have:=r.out;have:=s.out;have:=t.out;have:=A.out;(try have:=B.out);simp;omega));have a7:=hid (l.blk eb.out (by have:=r.out;have:=s.out;have:=t.out;have:=A.out;(try have:=B.out);simp;omega));have W:=hid (l.blk cm.out (by have:=r.out;have:=s.out;have:=t.out;have:=A.out;(try have:=B.out);simp;omega));have bl:=hid (l.blk ee.out (by have:=r.out;have:=s.out;have:=t.out;have:=A.out;(try have:=B.out);simp;omega));have er:=hid (b1.turned l (by intro x hx hm;simp at hm;exact b1.ne I.out x hx hm));have el:=hid (ej.turned l (by intro x hx hm;simp at hm;subst hm;have:=ef.lt x hx;omega));have U:=hid (l.below T.out (by intro x hx;simp at hx;subst hx;exact ci) T.size);rw[L];clear L l ci;clear k6 f6;have cv:=gw.out
 go_wp2_with (first
  |((with_reducible refine au 205 ?parts61 [.pointer (some ⟨vb,0,none⟩), .slice none 0 0, .map (some wg2.heap.size), .slice lp 0 lc] ?hg ?ho ?hf ?_);(case hg|ho=>rfl);(case hf=>kernel_rfl))
  |((with_reducible refine ae 205 (.tmp 61) [.pointer (some ⟨vb,0,none⟩), .slice none 0 0, .map (some wg2.heap.size), .slice lp 0 lc] (some 62) ?hgd ?ho ?hd ?hx ?_);(case hgd|ho|hd|hx=>rfl);(intro fb wg3 l3 B3 e3 z3))
  |fail)
 have E:Below wg2.heap.size wg2 wg3:=(((Below.refl _ _).alloc (Nat.le_refl _) _).trans (e3.mono (by have:=l3;simp at this;omega)));have bx:=hid (bw.below E bw.lt);have b4:=hid (b3.below E b3.lt);have cc:=hid (ca.below E ca.lt);have J:=hid (b7.below E b7.lt);have a8:=hid (a7.below E a7.lt);have X:=hid (W.below E W.lt);have bm:=hid (bl.below E bl.lt);have es:=hid (er.below E);have em:=hid (el.below E);have V:=hid (U.trans (E.mono U.size));have H:=hid B3;obtain⟨m,HM⟩:∃m,Hid (wg2.heap.size=m):=⟨_,rfl⟩;rw[HM.out]at H;clear E B3 e3 z3 l3
 refine(Da fb vb m (.slice none 0 0) lp lc _ H.out).mono ?_
 rintro e w' ⟨rfl,rfl⟩;clear cv;go_upto_region 13 with fail;refine wp_region_held_drew (S:=fun wx=>wx.cell? ⟨vb,5,none⟩=some (.pointer (some ⟨bb,0,none⟩))∧wx.cell? ⟨vb,6,none⟩=some (.pointer (some ⟨cb,0,none⟩))) (by kernel_rfl) (⟨J.drew.cell (i:=5) rfl,J.drew.cell (i:=6) rfl⟩) (fun k=> ?_);obtain⟨wh,cw⟩:∃wh,wh=wg3.drew:=⟨_,rfl⟩;have D:Below wg3.heap.size wg3 wh:=by rw[cw];exact(Below.refl _ _).drew
 have b0:=hid (bx.below D bx.lt);have d2:=hid (b4.below D b4.lt);have d8:=hid (cc.below D cc.lt);have ad:=hid (J.below D J.lt);have a9:=hid (a8.below D a8.lt);have be:=hid (X.below D X.lt);have c6:=hid (bm.below D bm.lt);have c8:=hid (H.below D H.lt);have fI:=hid (es.below D);have fr:=hid (em.below D);have a6:=hid (V.trans (D.mono V.size));rw[←cw];rw[←cw]at k;clear cw D;refine hp 0 ?_;refine hp 1 ?_;refine hp 2 ?_;refine hp 3 ?_;refine hp 5 ?_;refine wpAnyH_ready (rs:=[4]) (by kernel_rfl) (by simp) ?_;refine AllReadyH.cons rfl (fun K hK=> ?_) AllReadyH.nil;go_simp
 refine(aR bb c2 first (ep:Int) m1 m2 m3 _ a9.out).mono ?_
 rintro e w' ⟨rfl,rfl⟩
 (try go_wp2_with fail)
 refine hK.out _ _ (⟨ad.cell (i:=5) rfl,ad.cell (i:=6) rfl⟩) (fun j=> ?_);clear hK K k;have k:=j;clear j
 (try go_frame)
 refine wpAnyH_ready (rs:=[6]) (by kernel_rfl) (by simp) ?_;refine AllReadyH.cons rfl (fun K hK=> ?_) AllReadyH.nil;go_simp
 refine(fW jb db (.pointer (some ⟨sb,0,none⟩)) O ((0:Nat):Int) (ep:Int) o (n:Int) F first _ b0.out).mono ?_
 rintro e wi ⟨rfl,C⟩;have fw:=hid (b0.below C b0.lt);have f4:=hid (d2.below C d2.lt);have f9:=hid (d8.below C d8.lt);have y:=hid (ad.below C ad.lt);have c5:=hid (a9.below C a9.lt);have bk:=hid (be.below C be.lt);have c7:=hid (c6.below C c6.lt);have c9:=hid (c8.below C c8.lt);have fT:=hid (fI.below C);have fs:=hid (fr.below C);have ea:=hid (a6.trans (C.mono a6.size));clear C
 (try go_wp2_with fail)
 refine hK.out _ _ (⟨y.cell (i:=5) rfl,y.cell (i:=6) rfl⟩) (fun j=> ?_);clear hK K k;have k:=j;clear j
 (try go_frame)
 refine hp 7 ?_;refine hp 8 ?_;refine hp 9 ?_;refine hp 10 ?_;refine hp 11 ?_;refine hp 12 ?_;refine hp 13 ?_;refine hp 15 ?_;refine hp 16 ?_;refine hp 17 ?_;refine hp 18 ?_;refine wpAnyH_ready (rs:=[14]) (by kernel_rfl) (by simp) ?_;refine AllReadyH.cons rfl (fun K hK=> ?_) AllReadyH.nil;go_simp
 refine(ko bb c2 first (ep:Int) m1 m2 m3 _ c5.out 0 bk.out).mono ?_
 rintro e w' ⟨rfl,rfl⟩
 (try go_wp2_with fail)
 refine hK.out _ _ (⟨y.cell (i:=5) rfl,y.cell (i:=6) rfl⟩) (fun j=> ?_);clear hK K k;have k:=j;clear j
 (try go_frame)
 refine wpAnyH_ready (rs:=[19]) (by kernel_rfl) (by simp) ?_;refine AllReadyH.cons rfl (fun K hK=> ?_) AllReadyH.nil;go_simp
 refine(dC cb o _ c7.out).mono ?_
 rintro e w' ⟨rfl,rfl⟩
 (try go_wp2_with fail)
 refine hK.out _ _ (⟨y.cell (i:=5) rfl,y.cell (i:=6) rfl⟩) (fun j=> ?_);clear hK K k;have k:=j;clear j
 (try go_frame)
 refine hp 20 ?_;refine hp 21 ?_;refine wpAnyH_done (by kernel_rfl) ?_ _;clear k;have gb:=b5.c0;simp only at gb;go_wp2_with fail
 refine(AP fb vb m (.slice none 0 0) (.slice lp 0 lc) none 0 _ c9.out (y.cell (i:=4) rfl)).mono ?_
 rintro e w' ⟨rfl,rfl⟩;go_wp2_with fail
 refine(xx fb vb m (.slice lp 0 lc) none 0 _ c9.out).mono ?_
 rintro e w' ⟨rfl,rfl⟩;go_wp2_with fail;go_ret2;exact⟨⟨vb,jb,sb,xb,bb,cb,c2,m1,m2,m3,rfl,⟨y.out,fw.out,f4.out,fs.out,f9.out,c5.out,bk.out,c7.out,fT.out,by have:=r.out;have:=s.out;have:=t.out;have:=A.out;have:=B.out;have:=gD.out;omega,gv.out⟩⟩,ea.out⟩
structure ag where
 lba:Int
 epoch:Int
 slot:Int
def ag.cells (v:ag):List Value:=[.int .i64 v.lba, .int .i64 v.epoch, .int .i64 v.slot]
def ar (l:List ag):List Value:=l.flatMap ag.cells
theorem fl (l:List ag):(ar l).length=l.length*3:=by
 induction l with
 |nil=>rfl
 |cons a r ih=>show(a.cells++ar r).length= _;rw[List.length_append,ih,List.length_cons];show 3+_= _;omega
theorem ge (a b:List ag):ar (a++b)=ar a++ar b:=by simp[ar]
theorem pI (l:List ag):∀v∈ar l,v.oneCell'=true:=by
 intro v a;simp only[ar,List.mem_flatMap]at a;obtain⟨x,_,b⟩:=a;simp[ag.cells]at b
 rcases b with rfl|rfl|rfl<;>rfl
theorem Ih (l:List ag):∀(j:Nat) (p:ag),l[j]?=some p→(ar l)[j*3]?=some (.int .i64 p.lba)∧(ar l)[j*3+1]?=some (.int .i64 p.epoch)∧(ar l)[j*3+2]?=some (.int .i64 p.slot):=by
 induction l with
 |nil=>intro j p h;simp at h
 |cons a r ih=>
  intro j p h
  cases j with
  |zero=>simp at h;subst h;exact⟨rfl,rfl,rfl⟩
  |succ j=>
   have:=ih j p (by simpa using h)
   show(a.cells++ar r)[(j+1)*3]?= _∧(a.cells++ar r)[(j+1)*3+1]?= _∧(a.cells++ar r)[(j+1)*3+2]?= _
   have b:a.cells.length=3:=rfl;rw[List.getElem?_append_right (by omega),List.getElem?_append_right (by omega),List.getElem?_append_right (by omega),b];rw[show(j+1)*3-3=j*3 by omega,show(j+1)*3+1-3=j*3+1 by omega,show(j+1)*3+2-3=j*3+2 by omega];exact this
def fD (a b:Int):Int:=if a<b then -1 else if b<a then 1 else 0
def cL (a b:ag):Int:=if fD a.lba b.lba≠0 then fD a.lba b.lba else if fD a.epoch b.epoch≠0 then fD a.epoch b.epoch else fD a.slot b.slot
theorem sd {a b:Int}:fD a b<0↔a<b:=by unfold fD;split<;>(try split)<;>omega
theorem pJ {a b:Int}:fD a b=0↔a=b:=by unfold fD;split<;>(try split)<;>omega
def gR (a b:ag):Prop:=a.lba<b.lba∨(a.lba=b.lba∧(a.epoch<b.epoch∨(a.epoch=b.epoch∧a.slot<b.slot)))
theorem oy {a b:ag}:cL a b<0↔gR a b:=by
 unfold cL gR;have i:=@sd a.lba b.lba;have f:=@pJ a.lba b.lba;have j:=@sd a.epoch b.epoch;have g:=@pJ a.epoch b.epoch;have l:=@sd a.slot b.slot
 split
 ·rename_i h;rw[i];constructor
  ·exact .inl
  ·rintro(d|⟨d,_⟩)
   ·exact d
   ·exact absurd (f.2 d) h
 ·rename_i h
  have d:=f.1 (by omega)
  split
  ·rename_i k;rw[j];constructor
   ·exact fun c=> .inr ⟨d, .inl c⟩
   ·rintro(c|⟨_,c|⟨c,_⟩⟩)
    ·omega
    ·exact c
    ·exact absurd (g.2 c) k
  ·rename_i k
   have c:=g.1 (by omega);rw[l];constructor
   ·exact fun e=> .inr ⟨d, .inr ⟨c,e⟩⟩
   ·rintro(e|⟨_,e|⟨_,e⟩⟩)
    ·omega
    ·omega
    ·exact e
def jh (v:ag) (l:List ag):Nat:=(l.takeWhile fun x=>decide (cL x v<0)).length
theorem iW (r:Rec) (w:World) (d:r.name.size≤1073741824) (j:Fits r.epoch):
  Calls prog 128 #[r.v] w fun e w'=>e= .returned (.int .i64 (jH r))∧Below w.heap.size w w':=by
 obtain⟨f,c,i,b,a,h,root,g⟩:=r
 by_cases k:f=1
 ·subst k;exact Ku c i b a h root g w d j
 by_cases l:f=2
 ·subst l;exact Kv c i b a h root g w d j
 by_cases o:f=5
 ·subst o;exact Kw c i b a h root g w d j
 by_cases m:f=3
 ·subst m;exact Kx c i b a h root g w d j
 by_cases n:f=4
 ·subst n;exact Ky c i b a h root g w d j
 exact Kz f c i b a h root g w d j k l o m n
theorem me {r:Rec} (h:aI r=true):jH r=0:=by unfold jH;rw[h];rfl
theorem qM {r:Rec} (h:aI r=false):jH r=2:=by unfold jH;rw[h];rfl
def cY:List Int:=[1,4,8,4,4,8]
def Rec.nums (r:Rec):List Int:=[r.kind,r.epoch,r.time,r.count,r.target,r.till]
def cD (r:Rec):List UInt8:=da cY r.nums++cq r.root.data.toList++cq r.name.data.toList
theorem dh {r:Rec} (h:aI r=true):(1≤r.kind∧r.kind≤5)∧(0≤r.epoch∧r.epoch≤4294967295)∧(0≤r.time∧r.time≤1099511627776)∧(0≤r.count∧r.count≤4096)∧(0≤r.target∧r.target≤4294967295)∧(0≤r.till∧r.till≤1099511627776)∧r.root.size≤32∧r.name.size≤16:=by
 obtain⟨g,f,j,d,c,i,root,b⟩:=r;have e:b.data.toList.length=b.size:=rfl;simp only[aI,aW,bN,e,Bool.and_eq_true,decide_eq_true_eq]at h ⊢;obtain⟨⟨⟨⟨k,l⟩,m⟩,n⟩,a⟩:=h
 split at a
 ·simp only[Bool.and_eq_true,decide_eq_true_eq]at a;omega
 ·split at a
  ·simp only[Bool.and_eq_true,decide_eq_true_eq]at a;omega
  ·split at a
   ·simp only[Bool.and_eq_true,decide_eq_true_eq]at a;omega
   ·split at a
    ·simp only[Bool.and_eq_true,decide_eq_true_eq]at a;omega
    ·simp at a
theorem Db {r:Rec} (h:aI r=true):kh cY r.nums:=by
 obtain⟨⟨d,e⟩,⟨f,g⟩,⟨j,k⟩,⟨l,m⟩,⟨n,o⟩,⟨p,q⟩,_,_⟩:=dh h;refine⟨rfl,fun i a x b c=> ?_⟩
 match i,b,c with
 |0,b,c=>simp[cY,Rec.nums]at b c;subst b;subst c;simp;omega
 |1,b,c=>simp[cY,Rec.nums]at b c;subst b;subst c;simp;omega
 |2,b,c=>simp[cY,Rec.nums]at b c;subst b;subst c;simp;omega
 |3,b,c=>simp[cY,Rec.nums]at b c;subst b;subst c;simp;omega
 |4,b,c=>simp[cY,Rec.nums]at b c;subst b;subst c;simp;omega
 |5,b,c=>simp[cY,Rec.nums]at b c;subst b;subst c;simp;omega
 |i+6,b,c=>simp[cY]at b
theorem mf (r:Rec):(da cY r.nums).length=29:=by simp[da,cY,Rec.nums,beBytes_length]
theorem nq (w:World):
  Calls prog 241 #[] w fun e w'=>∃v,e= .returned v∧bC w' v cY∧Below w.heap.size w w':=by
 go_enter func241,ntmps241;go_wp2_with fail;go_ret;exact⟨_,rfl,bC.blk (xs:=cY) (ac.new w (cY.map (Value.int .i64)) 3) rfl 6,(Below.refl _ _).alloc (Nat.le_refl _) _⟩
def E8 (r:Rec) (e:Ending):Prop:=
 (aI r=true∧∃q,e= .returned (.tuple #[.string q, .int .i64 0])∧ah q (cD r))∨(aI r=false∧e= .returned (.tuple #[.string ⟨#[]⟩, .int .i64 2]))
structure f7 (w:World) (b:Nat) (r:Rec):Prop where
 lt:b<w.heap.size
 c0:w.cell? ⟨b,0,none⟩=some (.int .i64 r.kind)
 c1:w.cell? ⟨b,1,none⟩=some (.int .i64 r.epoch)
 c2:w.cell? ⟨b,2,none⟩=some (.int .i64 r.time)
 c3:w.cell? ⟨b,3,none⟩=some (.int .i64 r.count)
 c4:w.cell? ⟨b,4,none⟩=some (.int .i64 r.target)
 c5:w.cell? ⟨b,5,none⟩=some (.int .i64 r.till)
 c6:w.cell? ⟨b,6,none⟩=some (.string r.root)
 c7:w.cell? ⟨b,7,none⟩=some (.string r.name)
theorem f7.below {w c:World} {b:Nat} {r:Rec} (h:f7 w b r) {B:Nat} (hb:Below B w c) (a:b<B):f7 c b r:=
 ⟨by have:=hb.size;have:=h.lt;omega,by rw[hb.cell (by exact a)];exact h.c0,by rw[hb.cell (by exact a)];exact h.c1,by rw[hb.cell (by exact a)];exact h.c2,by rw[hb.cell (by exact a)];exact h.c3,
  by rw[hb.cell (by exact a)];exact h.c4,by rw[hb.cell (by exact a)];exact h.c5,by rw[hb.cell (by exact a)];exact h.c6,by rw[hb.cell (by exact a)];exact h.c7⟩
theorem f7.blk {w:World} {b:Nat} {r:Rec} {t:TypeId} (h:ac w b r.cells t):f7 w b r:=
 ⟨h.lt,h.cell rfl,h.cell rfl,h.cell rfl,h.cell rfl,h.cell rfl,h.cell rfl,h.cell rfl,h.cell rfl⟩
theorem aV {r:Rec}:(prog.info? 59).map (·.size)=some r.cells.length:=by kernel_rfl
theorem rr (r:Rec) (w:World) (T:r.root.size≤1048576) (n:r.name.size≤1048576) (hf:Fits r.epoch):
  Calls prog 172 #[r.v] w fun e w'=>E8 r e∧Below w.heap.size w w':=by
 have n:r.name.size≤1073741824:=by omega
 cases hok:aI r with
 |false=>
  have B:=hid hok;clear hok;go_enter func172,ntmps172
  go_wp2_with (first
   |((with_reducible refine ae 59 (.tmp 0) r.cells (some 1) ?hgd ?ho ?hd ?hx ?_);(case hgd|ho|hd|hx=>rfl);(intro b w0 I E F z0))
   |((with_reducible refine aj 59 (.tmp 1) b r.cells 59 _ E underlying59 rfl aV ?hgd ?ho ?hx ?_);(case hgd|ho|hx=>rfl)))
  refine(iW r _ n hf).mono ?_
  rintro e w1 ⟨rfl,o⟩;rw[qM B.out];have j:Below w.heap.size w w1:=(F.mono I).trans (o.mono (by omega));clear F o;go_wp2_with fail;go_ret2;exact⟨.inr ⟨B.out,rfl⟩,j⟩
 |true=>
  have G:=Db hok;have B:=hid hok;clear hok;go_enter func172,ntmps172
  go_wp2_with (first
   |((with_reducible refine ae 59 (.tmp 0) r.cells (some 1) ?hgd ?ho ?hd ?hx ?_);(case hgd|ho|hd|hx=>rfl);(intro b w0 I E F z0))
   |((with_reducible refine aj 59 (.tmp 1) b r.cells 59 _ E underlying59 rfl aV ?hgd ?ho ?hx ?_);(case hgd|ho|hx=>rfl)))
  refine(iW r _ n hf).mono ?_
  rintro e w1 ⟨rfl,o⟩;rw[me B.out];have R1:=(f7.blk E).below o z0;have j:Below w.heap.size w w1:=(F.mono I).trans (o.mono (by omega));have bl:w.heap.size≤b:=I;clear F o z0 I E;obtain⟨f,d,h,c,a,g,root,i⟩:=r;obtain⟨J,L,M,N,O,P,Q,R,S⟩:=R1;have HP:=hid G;clear G;go_wp2_with fail;go_region_held3 (fun w'=>w'.cell? ⟨b,0,none⟩=some (.int .i64 f)∧w'.cell? ⟨b,1,none⟩=some (.int .i64 d)∧w'.cell? ⟨b,2,none⟩=some (.int .i64 h)∧w'.cell? ⟨b,3,none⟩=some (.int .i64 c)∧w'.cell? ⟨b,4,none⟩=some (.int .i64 a)∧w'.cell? ⟨b,5,none⟩=some (.int .i64 g)) (go_keep) ((first|(go_at_call 241;refine(nq _).mono ?_;rintro e D ⟨v,rfl,hv,k⟩;have R2:f7 D b ⟨f,d,h,c,a,g,root,i⟩:=(by first|exact(f7.mk J L M N O P Q R S:f7 w1 b ⟨f,d,h,c,a,g,root,i⟩).below ((Below.refl _ _).drew.trans k) J|exact(f7.mk J L M N O P Q R S:f7 w1 b ⟨f,d,h,c,a,g,root,i⟩).below (((Below.refl _ _).alloc (Nat.le_refl _) _).drew.trans (k.mono (by simp))) J);obtain⟨K,U,V,W,X,Y,Z,p6,p7⟩:=R2)|(go_at_call 66;refine(fc v _ cY [f,d,h,c,a,g] _ (by first|exact hv.below ((Below.refl _ _).alloc (Nat.le_refl _) _) (Nat.le_refl _)|exact hv) (by first|exact bC.blk (xs:=[f,d,h,c,a,g]) (ac.new D [.int .i64 f, .int .i64 d, .int .i64 h, .int .i64 c, .int .i64 a, .int .i64 g] _) rfl 6|exact(bC.blk (xs:=[f,d,h,c,a,g]) (ac.drew (ac.new w1 [.int .i64 f, .int .i64 d, .int .i64 h, .int .i64 c, .int .i64 a, .int .i64 g] _)) rfl 6).below k (Nat.le_refl _)) (by simp) (by simp) (by exact HP.out)).mono ?_;rintro e w3 ⟨q,rfl,tq,u⟩;have R3:f7 w3 b ⟨f,d,h,c,a,g,root,i⟩:=(by first|exact(f7.mk K U V W X Y Z p6 p7:f7 D b ⟨f,d,h,c,a,g,root,i⟩).below (((Below.refl _ _).alloc (Nat.le_refl _) _).trans (u.mono (by simp))) K|exact(f7.mk K U V W X Y Z p6 p7:f7 D b ⟨f,d,h,c,a,g,root,i⟩).below u K);have s:Below w1.heap.size w1 w3:=(by first|exact(Below.refl _ _).drew.trans (k.trans (((Below.refl D.heap.size D).alloc (Nat.le_refl _) _).trans (u.mono (by simp))|>.mono k.size))|exact((Below.refl w1.heap.size w1).alloc (Nat.le_refl _) _).drew.trans ((k.trans (u.mono k.size)).mono (by simp)));obtain⟨C,s0,s1,s2,s3,s4,s5,s6,s7⟩:=R3;clear U V W X Y Z p6 p7 L M N O P Q R S)|fail))
  all_goals
   clear s0 s1 s2 s3 s4 s5;have t:=(dh B.out).2.2.2.2.2.2;have a1:root.size≤32:=t.1;have a0:i.size≤16:=t.2;have sq:q.size≤29:=by rw[tq.size];exact Nat.le_of_eq (mf ⟨f,d,h,c,a,g,root,i⟩)
   clear t;go_wp2_with fail;go_region_with ((first|(go_at_call_of 160 (Value.string root);refine(eY root _ (by omega)).mono ?_;rintro e wA ⟨x,rfl,tx,l⟩;have z:b<wA.heap.size:=(by first|exact Nat.lt_of_lt_of_le C l.size|exact Nat.lt_of_lt_of_le A l.size);have bb:=l.cell (p:=⟨b,6,none⟩) (by first|exact C|exact A);have be:=l.cell (p:=⟨b,7,none⟩) (by first|exact C|exact A);have sA:x.size≤36:=(by rw[tx.size,ch];have e:root.data.toList.length=root.size:=rfl;omega))|(go_at_call_of 160 (Value.string i);refine(eY i _ (by omega)).mono ?_;rintro e wB ⟨y,rfl,ty,m⟩;have A:b<wB.heap.size:=(by first|exact Nat.lt_of_lt_of_le C m.size|exact Nat.lt_of_lt_of_le z m.size);have bd:=m.cell (p:=⟨b,6,none⟩) (by first|exact C|exact z);have bk:=m.cell (p:=⟨b,7,none⟩) (by first|exact C|exact z);have sB:y.size≤36:=(by rw[ty.size,ch];have e:i.data.toList.length=i.size:=rfl;omega))))
   all_goals go_wp2_with fail
   all_goals go_ret2
   all_goals refine⟨.inl ⟨B.out,_,rfl,(tq.append tx).append ty⟩, ?_⟩
   all_goals(have bm:=s.size;have H:=j.size)
   all_goals first
    |exact j.trans ((s.trans ((Below.refl w3.heap.size w3).drew.trans (l.trans (m.mono l.size))|>.mono s.size)).mono H)
    |exact j.trans ((s.trans ((Below.refl w3.heap.size w3).drew.trans (m.trans (l.mono m.size))|>.mono s.size)).mono H)
end Go.Proofs.YtadooplpfhdhcaaGreat
