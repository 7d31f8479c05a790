/- Walk of VolSealed (chapter 26): a volume's records are right; each closed epoch that was not purged is proved, place by place. -/
import Derived.Test.YtadooplpfhdhcaaGreatQ33
import Derived.Test.YtadooplpfhdhcaaGreatQ37
import Derived.Test.YtadooplpfhdhcaaGreatQ38
import Derived.Test.YtadooplpfhdhcaaGreatQ39
set_option linter.unusedSimpArgs false
set_option linter.unusedVariables false
set_option maxRecDepth 100000
set_option maxHeartbeats 4000000
namespace Go.Proofs.YtadooplpfhdhcaaGreat
open Go Go.RowKit Go.Maps Go.WideMaps
open Go.Lib (hid)
open Go.Proofs.Tryz
theorem Iz (w:World):(zeroValue 36).run prog w= .ok (.agg (aP.cells ⟨0,0,0,0,⟨#[]⟩,⟨#[]⟩,none,0,0⟩).toArray) w:=by kernel_rfl
theorem ai.belowAll {S:List Nat} {B:Nat} {w0 w w':World} (t:ai S w w') (hb:Below B w0 w) (d:B≤w.heap.size) (a:∀x,x∈S→B≤x):Below B w0 w':=
 ⟨by rw[t.os,hb.os],by rw[t.tape,hb.tape],by rw[t.output,hb.output],Nat.le_trans hb.size t.size,fun k b=>by
  rw[t.block k (by omega) (fun c=>by have:=a k c;omega),hb.block k b]⟩
theorem Lj (m:AM) (c:aP):(lP m c).2.geo=m.geo∧(lP m c).2.root=m.root:=by
 have b:∀r,(m.seal r).2.geo=m.geo∧(m.seal r).2.root=m.root:=fun r=>by
  unfold AM.seal
  split
  ·split
   ·exact⟨rfl,rfl⟩
   ·exact⟨rfl,rfl⟩
  ·exact⟨rfl,rfl⟩
 have a:∀q (s:Int×AM),s.2.geo=m.geo∧s.2.root=m.root→(gx q m s).2.geo=m.geo∧(gx q m s).2.root=m.root:=fun q s h=>by
  unfold gx
  split
  ·exact h
  ·exact⟨rfl,rfl⟩
 unfold lP
 split
 ·exact⟨rfl,rfl⟩
 split
 ·exact⟨rfl,rfl⟩
 split
 ·exact⟨rfl,rfl⟩
 unfold dB
 split
 ·exact a _ _ ⟨rfl,rfl⟩
 split
 ·exact⟨rfl,rfl⟩
 split
 ·split<;>exact⟨rfl,rfl⟩
 split
 ·exact a _ _ (b _)
 split
 ·exact a _ _ (b _)
 split
 ·exact a _ _ (b _)
 split
 ·exact a _ _ (b _)
 split
 ·exact a _ _ ⟨rfl,rfl⟩
 ·exact⟨rfl,rfl⟩
theorem L8 {w:World} {g:Nat} {l:List ay} {z:List Value} {t:TypeId} (h:ac w g (eJ l++z) t) {k:Nat} {x:ay} (b:l[k]?=some x):w.rangeAt g (k*9) x.cells:=by
 intro j u hu;have a:=zy l k x b j u hu;exact h.cell (by rw[List.getElem?_append_left (List.getElem?_eq_some_iff.1 a).1];exact a)
theorem IA (a b:Int):prog.built 63 [(0, .int .i64 a),(1, .int .i64 b)]=some ([.int .i64 a, .int .i64 b]:List Value).toArray:=by kernel_rfl
theorem IB {w:World} {b:Nat} {ep lba:Int} {g f:Bool} {n:Int} {h k:ap} {u v:Value} {s:Int} {c:ByteArray} {t:TypeId} (d:ac w b (cq ep lba g (bj f n h k u v) s c) t):w.rangeAt b 3 (bj f n h k u v):=by
 intro j x a
 match j,a with
 |0,a=>simp[bj]at a;subst a;exact d.cell (i:=3) rfl
 |1,a=>simp[bj]at a;subst a;exact d.cell (i:=4) rfl
 |2,a=>simp[bj]at a;subst a;exact d.cell (i:=5) rfl
 |3,a=>simp[bj]at a;subst a;exact d.cell (i:=6) rfl
 |4,a=>simp[bj]at a;subst a;exact d.cell (i:=7) rfl
 |5,a=>simp[bj]at a;subst a;exact d.cell (i:=8) rfl
 |6,a=>simp[bj]at a;subst a;exact d.cell (i:=9) rfl
 |7,a=>simp[bj]at a;subst a;exact d.cell (i:=10) rfl
 |j+8,a=>simp[bj]at a
structure nZ (w0:World) (i:ar) (v:ak) (m:AM) (log:List LE) (g:Int) (wx:World):Prop where
 vol:am wx i v
 rv:i.rv= .pointer none
 is:aW v m log g
 foot:∀x,x∈i.foot v.d→w0.heap.size≤x
 bel:Below w0.heap.size w0 wx
theorem nZ.below {w0:World} {i:ar} {v:ak} {m:AM} {log:List LE} {g:Int} {a wy:World} (h:nZ w0 i v m log g a) (hb:Below a.heap.size a wy):nZ w0 i v m log g wy:=
 ⟨h.vol.below hb,h.rv,h.is,h.foot,h.bel.trans (hb.mono h.bel.size)⟩
theorem nZ.next {w0:World} {i:ar} {v:ak} {m:AM} {log:List LE} {g:Int} {c:aP} {e:Ending} {j k:World} (h:nZ w0 i v m log g j) (hd:tG j i v m c g e k):(∃r,e= .returned r)∧∃d v' a,nZ w0 d v' (lP m c).2 a (g+1) k∧d.vb=i.vb:=by
 obtain⟨o,d,v',a,f,b,n⟩:=hd;have l:d.rv=i.rv:=congrArg Prod.fst b;exact⟨⟨_,o⟩,d,v',a,⟨f.at',by rw[l];exact h.rv,n,fun x q=>(f.foot x q).elim (h.foot x) (fun p=>Nat.le_trans h.bel.size p),f.turned.belowAll h.bel h.bel.size h.foot⟩,congrArg Prod.snd b⟩
structure L9 (v:ak) (m:AM) (log:List LE) (x:ay):Prop where
 e0:0≤x.r.epoch
 e1:x.r.epoch≤4294967295
 closed:dp v x.r.epoch=0
 count:x.r.count=((cellsOf log v.vers x.r.epoch).length:Int)
 root:m.b.gone x.r.epoch=false→x.r.root=⟨(kT (aC (cr x.r.epoch (cellsOf log v.vers x.r.epoch)) 4096)).toArray⟩
theorem aW.closeF {v:ak} {m:AM} {log:List LE} {g:Int} (h:aW v m log g) {k:Nat} {x:ay} (a:v.sealed[k]?=some x) (b:x.r.kind=1):L9 v m log x:=by
 obtain⟨_,_,d⟩:=ny (v.sealed.map ay.r) m.geo.first 0 0 (by rw[h.chain.follow]);have f:=(d.each k x.r (Iw a)).2;have i:=h.roots.lt k x a b;have j:=h.f0;have l:=h.e1;refine⟨by omega,by omega, ?_,h.roots.count k x a b,fun e=> ?_⟩
 ·unfold dp
  rw[h.geo,h.epoch,if_neg (by omega),if_neg (by omega)]
 ·have c:=h.roots.root k x a b e
  unfold uX at c;exact aj.of (show aj x.r.root _ from c)
structure MY (v:ak) (m:AM) (log:List LE) (x:ay) (lba:Int) (n:Nat) (T:Option aw):Prop where
 last:dM v.vers lba x.r.epoch n
 mono:∀(i j:Nat) (a d:af),v.vers[i]?=some a→v.vers[j]?=some d→i≤j→cV lba x.r.epoch d→cV lba x.r.epoch a
 ofi:Jz v x.r.epoch lba n T
 cells:uY v x.r.epoch (cellsOf log v.vers x.r.epoch)
 len:(aC (cr x.r.epoch (cellsOf log v.vers x.r.epoch)) 4096).length=(cellsOf log v.vers x.r.epoch).length
 small:(cellsOf log v.vers x.r.epoch).length≤1020
 right:mO ⟨(kT (aC (cr x.r.epoch (cellsOf log v.vers x.r.epoch)) 4096)).toArray⟩ (aC (cr x.r.epoch (cellsOf log v.vers x.r.epoch)) 4096).length lba (bA (aC (cr x.r.epoch (cellsOf log v.vers x.r.epoch)) 4096) lba)
 found:(bA (aC (cr x.r.epoch (cellsOf log v.vers x.r.epoch)) 4096) lba).found=T.isSome
 hash:∀c,T=some c→(bA (aC (cr x.r.epoch (cellsOf log v.vers x.r.epoch)) 4096) lba).here.hash=⟨(fB x.r.epoch c.slot c.cipher.data.toList).toArray⟩∧0≤c.slot∧c.slot≤4294967295∧c.cipher.size≤4096
theorem aW.toldF {v:ak} {m:AM} {log:List LE} {g:Int} (h:aW v m log g) (x:ay) {lba:Int} (C:0≤lba) (D:lba<4096) (hl:m.geo.lbas≤4096):∃n T,MY v m log x lba n T:=by
 have a:=tB h.is lba x.r.epoch;obtain⟨n,hn⟩:=qU lba x.r.epoch v.vers a;obtain⟨T,A,e,u⟩:=h.ofIs hn;have l:=h.cellsOk x.r.epoch hl;have G:=h.epochC x.r.epoch;have b:(cellsOf log v.vers x.r.epoch).take (cellsOf log v.vers x.r.epoch).length=cellsOf log v.vers x.r.epoch:=List.take_of_length_le (Nat.le_refl _);have d:=ql (ep:=x.r.epoch) l (cellsOf log v.vers x.r.epoch).length (Nat.le_refl _);rw[b]at d;have B:=j8 x.r.epoch (cellsOf log v.vers x.r.epoch) (cellsOf log v.vers x.r.epoch).length (Nat.le_refl _);rw[b]at B;have o:=kP B 4096 (Nat.le_refl _);obtain⟨w,z⟩:=JA (f:=cr x.r.epoch (cellsOf log v.vers x.r.epoch)) C D o
 have i:∀c∈cellsOf log v.vers x.r.epoch,cr x.r.epoch (cellsOf log v.vers x.r.epoch) c.lba=some (fB x.r.epoch c.slot c.cipher.data.toList):=fun c hc=>by
  obtain⟨j,p⟩:=List.mem_iff_getElem?.1 hc
  have:=tJ (ep:=x.r.epoch) l (cellsOf log v.vers x.r.epoch).length (Nat.le_refl _) j c (List.getElem?_eq_some_iff.1 p).1 p
  rw[b]at this;exact this
 refine⟨n,T,hn,a,A,G,d, ?_,AP o lba, ?_,fun c hc=> ?_⟩
 ·rw[cellsOf_length]
  exact Nat.le_trans (nl _ _) h.vlen
 ·show eV _ lba=T.isSome
  rw[Bool.eq_iff_iff,w]
  cases T with
  |none=>
   have:=lW x.r.epoch (cellsOf log v.vers x.r.epoch) lba (cellsOf log v.vers x.r.epoch).length (Nat.le_refl _) (fun j c p _=>u rfl c (List.mem_of_getElem? p))
   rw[b]at this;rw[this];simp
  |some c=>
   obtain⟨q,s⟩:=e c rfl;rw[←s,i c q];simp
 ·obtain⟨q,s⟩:=e c hc
  obtain⟨y,k,_,_,H,E⟩:=A.some c hc;have F:=z _ (by rw[←s];exact i c q);have t:=E.ok;refine⟨F, ?_, ?_, ?_⟩
  ·have:=t.s0;omega
  ·have:=t.s1;omega
  ·have:=t.n;omega
structure tR (w0:World) (i:ar) (v:ak) (m:AM) (log:List LE) (g:Int) (b3:Nat) (gs:aI) (sv:Value) (wx:World):Prop where
 run:nZ w0 i v m log g wx
 geo:ac wx b3 gs.cells 23
 rows:wx.ownsRow w0.heap.size 61 9 sv v.sealed.length (eJ v.sealed)
theorem tR.below {w0:World} {i:ar} {v:ak} {m:AM} {log:List LE} {g:Int} {b:Nat} {c:aI} {sv:Value} {a wy:World} (h:tR w0 i v m log g b c sv a) (hb:Below a.heap.size a wy):tR w0 i v m log g b c sv wy:=
 ⟨h.run.below hb,h.geo.below hb h.geo.lt,own_below hb h.rows⟩
theorem wQ (gb gl gf:Int) (key:ByteArray) (v:Value) (l:List aP) (w:World) (h:gV w v l):
  Calls prog 4 #[(⟨gb,gl,gf⟩:aI).v, .string key,v] w fun e w'=>e= .returned (.bool true)∧Below w.heap.size w w':=by
 have HC:=hid h;have c8:=hid (fun(wx:World) (hb:Below w.heap.size w wx)=>FC ⟨gb,gl,gf⟩ v l wx (HC.below hb (Nat.le_refl _)));obtain⟨vp,vc,I,bx⟩:=h.row.shape;subst I;have d2:=hid bx;clear h bx;go_enter func4,ntmps4
 go_wp2_with (first
  |((with_reducible refine ae 23 (.tmp 0) (aI.cells ⟨gb,gl,gf⟩) (some 3) ?hgd ?ho ?hd ?hx ?_);(case hgd|ho|hd|hx=>rfl);(intro b3 w1 l1 B1 e1 z1;have c0:=B1.cell (i:=0) rfl))
  |fail)
 have O:=hid B1;have s:=hid (e1.mono l1);have hM:=hid l1;clear B1 e1 l1 z1 c0
 by_cases hn:gb<8∨1024<gb
 ·refine(DI gb _ hn).mono ?_
  rintro e w' ⟨rfl,rfl⟩;clear hn
  go_wp2_with (first
   |((with_reducible refine ag 23 (.tmp 3) b3 0 (aI.cells ⟨gb,gl,gf⟩) _ (some 36) (O.out.range) underlying23 rfl bM ?hg ?ho ?hds ?hx ?_);(case ho|hg|hds|hx=>rfl))
   |fail)
  refine(c8.out _ s.out).mono ?_
  rintro e w2 ⟨⟨q,rfl,hq⟩,E⟩;have y:=hid (s.trans (E.mono s.size));clear E hq
  cases q with
  |false=>
   go_wp2_with fail
   refine(oR _).mono ?_
   rintro e wz ⟨rfl,d⟩;have t:=hid (y.trans (d.mono y.size));clear d;go_wp2_with fail;go_ret;exact⟨rfl,t.out⟩
  |true=>
   go_wp2_with fail
   refine(oR _).mono ?_
   rintro e wz ⟨rfl,d⟩;have t:=hid (y.trans (d.mono y.size));clear d;go_wp2_with fail;go_ret;exact⟨rfl,t.out⟩
 ·obtain⟨n,rfl⟩:∃n:Nat,gb=(n:Int):=⟨gb.toNat,by omega⟩
  have cs:8≤n∧n≤1024:=by omega
  refine(xa n _ cs.1 cs.2).mono ?_
  rintro e w2 ⟨⟨db,dv,rfl,er,es⟩,E⟩;have a0:=hid (O.below E O.lt);have y:=hid (s.trans (E.mono s.size));have c6:=hid er;have c7:=hid (show ∀x,x∈(bp n dv).foot db→w1.heap.size≤x from es);have d3:=hid E;clear E er es hn cs
  go_wp2_with (first
   |((with_reducible refine ag 23 (.tmp 3) b3 0 (aI.cells ⟨(n:Int),gl,gf⟩) _ (some 36) (a0.out.range) underlying23 rfl bM ?hg ?ho ?hds ?hx ?_);(case ho|hg|hds|hx=>rfl))
   |fail)
  refine(c8.out _ y.out).mono ?_
  rintro e w3 ⟨⟨q,rfl,hq⟩,R⟩;have c5:=hid (a0.below R a0.lt);have z:=hid (y.trans (R.mono y.size));have bs:=hid (c6.below R);have a9:=hid (d3.trans (R.mono d3.size));have HQ:=hid hq;clear R hq
  cases q with
  |false=>
   go_wp2_with fail
   refine(oR _).mono ?_
   rintro e wz ⟨rfl,d⟩;have t:=hid (z.trans (d.mono z.size));clear d;go_wp2_with fail;go_ret;exact⟨rfl,t.out⟩
  |true=>
   go_wp2_with (first
    |((with_reducible refine ag 23 (.tmp 3) b3 0 (aI.cells ⟨(n:Int),gl,gf⟩) _ (some 47) (c5.out.range) underlying23 rfl bM ?hg ?ho ?hds ?hx ?_);(case ho|hg|hds|hx=>rfl))
    |fail)
   by_cases Y:¬key.size=32∨¬cD ⟨(n:Int),gl,gf⟩
   ·refine(zf _ ⟨(n:Int),gl,gf⟩ key _ Y).mono ?_
    rintro e w4 ⟨rfl,el⟩;have d5:=hid (z.trans (el.mono z.size));clear el Y;go_wp2_with fail
    refine(oR _).mono ?_
    rintro e wz ⟨rfl,d⟩;have t:=hid (d5.trans (d.mono d5.size));clear d;go_wp2_with fail;go_ret;exact⟨rfl,t.out⟩
   ·obtain⟨J,S⟩:key.size=32∧cD ⟨(n:Int),gl,gf⟩:=⟨Classical.not_not.1 (fun hh=>Y (.inl hh)),Classical.not_not.1 (fun hh=>Y (.inr hh))⟩
    clear Y;obtain⟨ep,rfl⟩:∃ep:Nat,gf=(ep:Int):=⟨gf.toNat,by have:=S.f0;simp only at this;omega⟩
    refine(rf db n ep gl dv key _ S J bs.out).mono ?_
    rintro e w4 ⟨vb,jb,sb,xb,bb,cb,c2,m1,m2,m3,vk,vd,kb,q,rfl,b2,an,g4,tq,ck,cz⟩;obtain⟨i0,U⟩:∃i,oq vb jb sb db xb bb cb c2 m1 m2 m3 none=i:=⟨_,rfl⟩;obtain⟨v0,bn⟩:∃x,cJ vk vd 1 0 n gl ep ep (bP n dv (2+ep % 2) kb q)=x:=⟨_,rfl⟩
    have c9:=hid (show aW v0 (AM.new ⟨(n:Int),gl,(ep:Int)⟩ key) [] 1 from by
     rw[←bn];exact aW.first_state S J an (by rw[an.size,fA]) (by rw[b2.size,mG]) dv kb q)
    have d1:=hid (show nZ w1 i0 v0 (AM.new ⟨(n:Int),gl,(ep:Int)⟩ key) [] 1 w4 from by
     refine⟨by rw[←U,←bn];exact cz.at,by rw[←U];rfl,c9.out, ?_,ck.turned.below a9.out (fun x hx=>c7.out x hx) a9.size⟩;rw[←U,←bn];exact cz.foot_ge a9.size (fun x hx=>(ck.foot x hx).elim (c7.out x) (fun h=>Nat.le_trans a9.size h)))
    have Z:i0.vb=vb:=by rw[←U];rfl
    rw[←Z];have dg:=hid S;have hp:=hid J;obtain⟨M0,ca⟩:∃M,AM.new ⟨(n:Int),gl,(ep:Int)⟩ key=M:=⟨_,rfl⟩;have fv:=hid (show M0.geo=⟨(n:Int),gl,(ep:Int)⟩∧M0.root=key from by rw[←ca];exact⟨rfl,rfl⟩);rw[ca]at d1;have Q:=hid (show(n:Int)≤48∧gl≤16∧l.length≤60 from by first|exact HQ.out rfl|exact HQ.out trivial|exact HQ.out);clear b2 an g4 tq ck cz U bn Z S J ca c9 c6 bs a0 c5;go_wp2_with fail;go_loopw [57] (fun iv wr=>∃(k:Nat) (i:ar) (v:ak) (m:AM) (log:List LE),iv= .int .i64 (k:Int)∧i0.vb=i.vb∧k≤l.length∧Hid (nZ w1 i v m log (1+(k:Int)) wr∧m.geo=⟨(n:Int),gl,(ep:Int)⟩∧m.root=key)) (fun iv _=>l.length-(intOf iv).toNat)
    case atStart=>exact⟨0,i0,v0,_,[],rfl,rfl,Nat.zero_le _,hid ⟨d1.out,fv.out⟩⟩
    case round=>
     obtain⟨k,i,v,m,log,rfl,Z,gD,HR⟩:=hrel;have N:=hid Z;clear Z
     by_cases H:k<l.length
     ·have W:(k:Int)<(l.length:Int):=by omega
      have X:decide (k<l.length)=true:=decide_eq_true H;have gw:(0:Int)≤(k:Int):=by omega
      obtain⟨c,hc⟩:∃c,l[k]?=some c:=⟨_,List.getElem?_eq_getElem H⟩;obtain⟨g,o,gM,hg,ew⟩:=d2.out k c hc;subst gM;have f4:=hid (show wr.rangeAt g (o+k*7) c.cells from fun j u hu=>by rw[HR.out.1.bel.cell (by show g<w1.heap.size;have:=s.size;omega),s.cell (by show g<w.heap.size;exact hg)];exact ew j u hu);have f6:=hid (show Sz c.name.size from⟨(HC.long k c hc).2⟩);have dc:=hid (show 1+(k:Int)<1152921504606846976 from by have:=Q.out.2.2;omega);clear ew hc hg
      go_wp2_with (first
       |((with_reducible refine ag 36 (.tmp 59) g (o+k*7) c.cells _ (some 60) f4.out underlying36 rfl tK ?hg ?ho ?hds ?hx ?_);(case ho|hg|hds|hx=>rfl))
       |((with_reducible refine ab 36 _ Iz (some 12) ?hgd ?ho ?hd ?_);(case hgd|ho|hd=>rfl);(intro eb w5 l5 B5 e5 z5))
       |((with_reducible refine aa 36 (.tmp 12) (.tmp 60) eb (aP.cells ⟨0,0,0,0,⟨#[]⟩,⟨#[]⟩,none,0,0⟩) c.cells 36 B5 rfl tK (aP.one _) ?hgd ?ho ?hx ?hy ?_);(case hgd|ho|hx|hy=>rfl);(intro w6 B6 o6;have fo:=hid B6))
       |((with_reducible refine ag 36 (.tmp 12) eb 0 c.cells _ (some 62) (fo.out.range) underlying36 rfl tK ?hg ?ho ?hds ?hx ?_);(case ho|hg|hds|hx=>rfl))
       |fail)
      have a5:=hid (HR.out.1.below (o6.below (e5.mono l5) l5));clear B5 e5 l5 z5 B6 o6;have a:=LW a5.vol a5.rv a5.is dc.out L2 f6.out;rw[←N.out]at a;refine a.mono ?_;clear a;rintro e w7 eq;obtain⟨⟨r,rfl⟩,i',v',b1,ei,b0⟩:=a5.next eq;have f3:=hid (show nZ w1 i' v' (lP m c).2 b1 (1+((k+1:Nat):Int)) w7 from by rw[show(1:Int)+((k+1:Nat):Int)=1+(k:Int)+1 by omega];exact ei);have d4:=hid (N.trans b0.symm)
      have fw:=hid (show(lP m c).2.geo=⟨(n:Int),gl,(ep:Int)⟩∧(lP m c).2.root=key from by
       have h1:=Lj m c;rw[h1.1,h1.2];exact HR.out.2)
      clear eq ei b0;have cW:wrap64 ((k:Int)+1)=(k:Int)+1:=IntWalk.wrap64_in _ (by have:=Q.out.2.2;omega);have gN:IntKind.i64.wrap ((k:Int)+1)=(k:Int)+1:=by rw[IntWalk.i64_left];exact cW
      go_wp2_with fail;go_roundw
      case rel=>exact⟨k+1,i',v',_,b1,by go_num,d4.out,by omega,hid ⟨f3.out,fw.out⟩⟩
      case measure=>simp[intOf];omega
     ·have W:¬(k:Int)<(l.length:Int):=by omega
      have X:decide (k<l.length)=false:=decide_eq_false H;have f:=hid HR.out.1;have a1:=hid HR.out.2;obtain⟨G,hG⟩:∃G:Int,1+(k:Int)=G:=⟨_,rfl⟩;rw[hG]at f;clear hG HR;have gH:=f.is.nr;have gL:=f.is.used_le;have a4:=hid (show v.sealed.length≤1020 from by omega);clear gH gL;go_wp2_with fail;have a:=A3 i v _ f.vol (by have:=a4.out;omega);rw[←N.out]at a;refine a.mono ?_;clear a;rintro e w5 ⟨⟨sv,rfl,cw⟩,ce⟩;obtain⟨sp,sc,I⟩:=aD cw;subst I;have b5:=hid (show tR w1 i v m log G b3 ⟨(n:Int),gl,(ep:Int)⟩ (.slice sp v.sealed.length sc) w5 from⟨f.below ce,O.below (f.below ce).bel O.lt,own_base cw f.bel.size⟩);clear cw ce;have c2:=b5.geo.cell (i:=2) rfl;go_wp2_with fail
      refine(DK key (ep:Int) _ v.sealed _ (dh.own b5.rows rfl) (by have:=a4.out;omega) (fun j x hx=>⟨(f.is.tame j x hx).1,(f.is.tame j x hx).2.2.2⟩)).mono ?_
      rintro e w6 ⟨bl,em⟩;have cf:=f.is.chain.check (by rw[a1.out.1];have:=dg.f1;simp only at this ⊢;omega) (by have:=a4.out;omega);rw[a1.out.2,a1.out.1]at cf;unfold tN at bl;rw[cf]at bl;simp only at bl;subst bl;have d6:=hid (b5.below em);clear em c2 cf;go_wp2_with fail;have a:=ze i v _ d6.run.vol;rw[←N.out]at a;refine a.mono ?_;clear a;rintro e w7 ⟨rfl,eD⟩;have gc:=hid (show tR w1 i v m log G b3 ⟨(n:Int),gl,(ep:Int)⟩ (.slice sp v.sealed.length sc) w7 from by rw[eD];exact d6.below (Below.refl _ _).drew);clear eD;have ey:v.epoch=m.epoch:=f.is.epoch;rw[ey];have gF:(m.epoch==m.epoch)=true:=beq_self_eq_true _;have gE:((v.sealed.length:Int)==(v.sealed.length:Int))=true:=beq_self_eq_true _;clear ey;go_wp2_with fail;clear gF gE;go_loopw [97] (fun iv wr=>∃k:Nat,iv= .int .i64 (k:Int)∧k≤v.sealed.length∧Hid (tR w1 i v m log G b3 ⟨(n:Int),gl,(ep:Int)⟩ (.slice sp v.sealed.length sc) wr)) (fun iv _=>v.sealed.length-(intOf iv).toNat)
      case atStart=>exact⟨0,rfl,Nat.zero_le _,gc⟩
      case round=>
       obtain⟨k,rfl,gD,HW⟩:=hrel
       by_cases H:k<v.sealed.length
       ·have W:(k:Int)<(v.sealed.length:Int):=by omega
        have X:decide (k<v.sealed.length)=true:=decide_eq_true H;have gw:(0:Int)≤(k:Int):=by omega
        have cW:wrap64 ((k:Int)+1)=(k:Int)+1:=IntWalk.wrap64_in _ (by have:=a4.out;omega);have gN:IntKind.i64.wrap ((k:Int)+1)=(k:Int)+1:=by rw[IntWalk.i64_left];exact cW
        obtain⟨x,hx⟩:∃x,v.sealed[k]?=some x:=⟨_,List.getElem?_eq_getElem H⟩;have HX:=hid hx;obtain⟨sg,sq,sz,ex,_,_,ej⟩:=bO HW.rows (by omega);obtain⟨rfl,rfl⟩:sp=some ⟨sg,0,none⟩∧sc=sq:=by injection ex with h1 _ h2;exact⟨h1,h2⟩
        have d8:=hid (L8 ej hx);clear hx ex ej
        go_upto_region 20 with(first
         |((with_reducible refine ag 61 (.tmp 99) sg (k*9) x.cells _ (some 100) d8.out underlying61 rfl iN ?hg ?ho ?hds ?hx ?_);(case ho|hg|hds|hx=>rfl))
         |((with_reducible refine ab 61 _ pB (some 21) ?hgd ?ho ?hd ?_);(case hgd|ho|hd=>rfl);(intro bd wa la Ba ea za))
         |((with_reducible refine aa 61 (.tmp 21) (.tmp 100) bd (ay.cells ⟨Rec.zero,⟨#[]⟩⟩) x.cells 61 Ba rfl iN (jG x) ?hgd ?ho ?hx ?hy ?_);(case hgd|ho|hx|hy=>rfl);(intro wb Bb ob))
         |fail)
        have en:Below wr.heap.size wr wb:=ob.below (ea.mono la) la;have b6:=hid (HW.below en);have d9:=hid Bb;clear Ba ea la za Bb ob en d8;have x0:=d9.cell (i:=0) rfl
        by_cases V:x.r.kind=1
        ·have et:(x.r.kind==1)=true:=beq_iff_eq.2 V
         have CF:=hid (f.is.closeF HX.out V);have cm:m.geo.lbas=gl:=by rw[a1.out.1]
         have a2:=hid (show 1≤gl∧gl≤16 from⟨dg.l0,Q.out.2.1⟩);have fz:=hid (fun(j:Nat) (hj:(j:Int)<gl)=>show fu v (j:Int)=0 from by rw[f.is.placeE];unfold iu;rw[cm,if_neg (by omega)]);have fs:=hid (show m.geo.lbas≤4096 from by rw[cm];have:=a2.out.2;omega);clear cm V;have c1:=b6.geo.cell (i:=1) rfl;go_wp2_with fail;clear c1 x0 et;go_loopw [107] (fun iv wr=>∃j:Nat,iv= .int .i64 (j:Int)∧(j:Int)≤gl∧Hid (tR w1 i v m log G b3 ⟨(n:Int),gl,(ep:Int)⟩ (.slice (some ⟨sg,0,none⟩) v.sealed.length sc) wr∧ac wr bd x.cells 61)) (fun iv _=>gl.toNat-(intOf iv).toNat)
         case atStart=>exact⟨0,rfl,by have:=a2.out.1;omega,hid ⟨b6.out,d9.out⟩⟩
         case round=>
          obtain⟨j,rfl,hV,HJ⟩:=hrel
          by_cases co:(j:Int)<gl
          ·have gt:decide ((j:Int)<gl)=true:=decide_eq_true co
           have ds:=hid (fz.out j co);have K:=hid (show(0:Int)≤(j:Int)∧(j:Int)≤4095 from by have:=a2.out.2;omega);have L:=hid (show((j+1:Nat):Int)≤gl∧gl.toNat-(j+1)<gl.toNat-j from by omega);have z:=hid (show wrap64 ((j:Int)+1)=(j:Int)+1 from IntWalk.wrap64_in _ (by have:=a2.out.2;omega));have x1:=HJ.out.2.cell (i:=1) rfl
           go_wp2_with (first
            |((with_reducible refine av 63 ?parts [.int .i64 x.r.epoch, .int .i64 (j:Int)] ?hg ?ho ?hf ?_);(case hg|ho=>rfl);(case hf=>exact IA _ _))
            |fail)
           clear x1
           by_cases bm:m.b.gone x.r.epoch=true
           ·have a:=wM i v m.b x.r.epoch (j:Int) _ HJ.out.1.run.vol f.is.maps CF.e0 CF.e1 ds.out CF.closed bm
            rw[←N.out]at a;refine a.mono ?_;clear a bm;rintro e wt ⟨rfl,F⟩;have D:=hid (And.intro (HJ.out.1.below F) (HJ.out.2.below F HJ.out.2.lt));clear F
            go_upto_region 32 with(first
             |((with_reducible refine ab 70 _ mR (some 23) ?hgd ?ho ?hd ?_);(case hgd|ho|hd=>rfl);(intro be wc lc Bc ec zc))
             |((with_reducible refine aa 70 (.tmp 23) (.tmp 118) be (cq 0 0 false jB 0 ⟨#[]⟩) (cq x.r.epoch (j:Int) true jB 0 ⟨#[]⟩) 70 Bc rfl da (jM rfl rfl) ?hgd ?ho ?hx ?hy ?_);(case hgd|ho|hx|hy=>rfl);(intro wd Bd od;have t2:=Bd.cell (i:=2) rfl))
             |fail)
            have A:=od.below (ec.mono lc) lc;have C:=hid (And.intro (D.out.1.below A) (D.out.2.below A D.out.2.lt));clear Bc ec zc lc Bd od A t2;have B:=z.out;have ad:IntKind.i64.wrap ((j:Int)+1)=(j:Int)+1:=by rw[IntWalk.i64_left];exact B
            go_wp2_with fail;clear B ad;go_roundw
            case rel=>exact⟨j+1,by go_num,L.out.1,C⟩
            case measure=>simp[intOf];have:=L.out.2;omega
           ·have cl:m.b.gone x.r.epoch=false:=Bool.eq_false_iff.2 bm
            obtain⟨nn,T,p⟩:=f.is.toldF x (lba:=(j:Int)) K.out.1 (by have:=K.out.2;omega) fs.out;have hR:=p.right;have hF:=p.found;have hH:=p.hash;rw[p.len,←CF.root cl]at hR;have a:=Fv i v m.b x.r.epoch (j:Int) (cellsOf log v.vers x.r.epoch) nn T _ HJ.out.1.run.vol f.is.ok f.is.maps CF.e0 CF.e1 ds.out CF.closed cl K.out.1 K.out.2 (by have:=f.is.vlen;omega) p.cells p.mono p.last p.ofi (by rw[p.len];have:=p.small;omega);rw[←N.out]at a;obtain⟨P,hP⟩:∃P,bA (aC (cr x.r.epoch (cellsOf log v.vers x.r.epoch)) 4096) (j:Int)=P:=⟨_,rfl⟩;rw[hP]at hR hF a;simp only[hP]at hH;obtain⟨ee,bv⟩:∃q,(cellsOf log v.vers x.r.epoch).length=q:=⟨_,rfl⟩;have cv:=p.small;have cg:=CF.count;rw[bv]at hR cv cg;have HR:=hid hR;have f5:=hid cv;have fr:=hid cg
            have a6:=hid (show 0≤pS T∧pS T≤4294967295∧(A0 T).size≤4096 from by
             cases T with
             |none=>exact⟨by simp[pS],by simp[pS],by show(⟨#[]⟩:ByteArray).size≤4096;exact Nat.zero_le _⟩
             |some c=>exact(hH c rfl).2)
            have a7:=hid (show(P.found=true∧P.told=⟨(fB x.r.epoch (pS T) (A0 T).data.toList).toArray⟩)∨(P.found=false∧A0 T=⟨#[]⟩)from by
             cases T with
             |none=>exact .inr ⟨hF,rfl⟩
             |some c=>exact .inl ⟨hF,by unfold lH.told;rw[hF];exact(hH c rfl).1⟩)
            clear hR hF hH hP bv p cv cg cl bm;refine a.mono ?_;clear a;rintro e wt ⟨⟨u,u2,rfl,hu,cy⟩,F⟩;obtain⟨pu,cu,I⟩:=aD hu;subst I;obtain⟨c3,b8,I⟩:=aD cy;subst I;have fI:=hid (show kD wt (.slice pu P.up.length cu) (.slice c3 P.left.length b8) P from⟨hu,cy⟩);have D:=hid (And.intro (HJ.out.1.below F) (HJ.out.2.below F HJ.out.2.lt));clear F hu cy;obtain⟨ST,cc⟩:∃q,pS T=q:=⟨_,rfl⟩;obtain⟨CP,b9⟩:∃q,A0 T=q:=⟨_,rfl⟩;rw[cc,b9]at a6 a7;rw[cc,b9];clear cc b9
            go_upto_region 28 with(first
             |((with_reducible refine ab 70 _ mR (some 23) ?hgd ?ho ?hd ?_);(case hgd|ho|hd=>rfl);(intro be wc lc Bc ec zc))
             |((with_reducible refine aa 70 (.tmp 23) (.tmp 118) be (cq 0 0 false jB 0 ⟨#[]⟩) (cq x.r.epoch (j:Int) false (bj P.found P.pos P.here P.ahead (.slice pu P.up.length cu) (.slice c3 P.left.length b8)) ST CP) 70 Bc rfl da (jM rfl rfl) ?hgd ?ho ?hx ?hy ?_);(case hgd|ho|hx|hy=>rfl);(intro wd Bd od;have t2:=Bd.cell (i:=2) rfl))
             |fail)
            have A:=od.below (ec.mono lc) lc;have C:=hid (And.intro (D.out.1.below A) (D.out.2.below A D.out.2.lt));have fT:=hid (fI.below A);have b4:=hid Bd;clear Bc ec zc lc Bd od A t2;obtain⟨q,hq⟩:∃q,P.found=q:=⟨_,rfl⟩;obtain⟨tl,cx⟩:∃q,P.told=q:=⟨_,rfl⟩;rw[hq,cx]at a7;have d0:=hid (And.intro hq cx);clear hq cx;have x6:wd.cell? ⟨bd,6,none⟩=some (.string x.r.root):=C.out.2.cell (i:=6) rfl;have x3:wd.cell? ⟨bd,3,none⟩=some (.int .i64 (ee:Int)):=by rw[←fr.out];exact C.out.2.cell (i:=3) rfl
            go_wp2_with (first
             |((with_reducible refine ag 68 (.tmp 132) be 3 (bj P.found P.pos P.here P.ahead (.slice pu P.up.length cu) (.slice c3 P.left.length b8)) _ (some 133) (IB b4.out) underlying68 rfl dD ?hg ?ho ?hds ?hx ?_);(case ho|hg|hds|hx=>rfl))
             |fail)
            clear x6 x3;have a:=A2 x.r.root ee (j:Int) P _ _ _ fT.out HR.out (by have:=f5.out;omega) K.out.1 K.out.2;rw[d0.out.1,d0.out.2]at a;refine a.mono ?_;clear a;rintro e wy ⟨rfl,bk⟩;have a3:=hid (And.intro (C.out.1.below bk) (C.out.2.below bk C.out.2.lt));have a8:=hid (b4.below bk b4.lt);clear bk;have x1:=a3.out.2.cell (i:=1) rfl;have g2:=a8.cell (i:=11) rfl;have e3:=a8.cell (i:=12) rfl;go_wp2_with fail
            refine(xx x.r.epoch ST CP _ CF.e0 CF.e1 a6.out.1 a6.out.2.1 a6.out.2.2).mono ?_
            rintro e wz ⟨⟨r,rfl,hr⟩,d⟩;have dT:=hid (And.intro (a3.out.1.below d) (a3.out.2.below d a3.out.2.lt));have f8:=hid (a8.below d a8.lt);rw[←aj.of hr]at a7;clear d hr x1 g2 e3;have e3:=f8.cell (i:=12) rfl
            rcases a7.out with⟨rfl,rfl⟩|⟨rfl,rfl⟩
            ·have e1:(tl.toList==tl.toList)=true:=beq_self_eq_true _
             have B:=z.out;have ad:IntKind.i64.wrap ((j:Int)+1)=(j:Int)+1:=by rw[IntWalk.i64_left];exact B
             go_wp2_with fail;clear B ad;go_roundw
             case rel=>exact⟨j+1,by go_num,L.out.1,dT⟩
             case measure=>simp[intOf];have:=L.out.2;omega
            ·have e1:((⟨#[]⟩:ByteArray).toList==([]:List UInt8))=true:=(aj.self _).is rfl
             have B:=z.out;have ad:IntKind.i64.wrap ((j:Int)+1)=(j:Int)+1:=by rw[IntWalk.i64_left];exact B
             go_wp2_with fail;clear B ad;go_roundw
             case rel=>exact⟨j+1,by go_num,L.out.1,dT⟩
             case measure=>simp[intOf];have:=L.out.2;omega
          ·have gt:decide ((j:Int)<gl)=false:=decide_eq_false co
           go_wp2_with fail;go_roundw
           case rel=>exact⟨k+1,by go_num,by omega,hid HJ.out.1⟩
           case measure=>simp[intOf];omega
        ·have et:(x.r.kind==1)=false:=beq_eq_false_iff_ne.2 V
         clear V;go_wp2_with fail;go_roundw
         case rel=>exact⟨k+1,by go_num,by omega,b6⟩
         case measure=>simp[intOf];omega
       ·have W:¬(k:Int)<(v.sealed.length:Int):=by omega
        have X:decide (k<v.sealed.length)=false:=decide_eq_false H;have d7:=hid (s.trans (HW.run.bel.mono s.size));go_wp2_with fail
        refine(oR _).mono ?_
        rintro e wz ⟨rfl,d⟩;have t:=hid (d7.trans (d.mono d7.size));clear d;go_wp2_with fail;go_ret;exact⟨rfl,t.out⟩
theorem zi (g:aI) (key:ByteArray) (v:Value) (l:List aP) (w:World) (a:wO g) (h:gV w v l):Calls prog 4 #[g.v, .string key,v] w fun e w'=>e= .returned (.bool true)∧Below w.heap.size w w':=
 wQ g.blocks g.lbas g.first key v l w h
end Go.Proofs.YtadooplpfhdhcaaGreat
