/- A finder (chapter 26): whether the open epoch's tags are right; what is left of purged epochs' cells. A volume is mounted of any disk that a volume left (chapter 26). The later superblock of two (chapter 10): Choose, where both are superblocks. -/
import Derived.Test.YtadooplpfhdhcaaGreatQ36
import Derived.Test.YtadooplpfhdhcaaGreatQ21
import Derived.Test.YtadooplpfhdhcaaGreatQ22
import Derived.Test.YtadooplpfhdhcaaGreatQ7
import Derived.Test.YtadooplpfhdhcaaGreatQ37
import Derived.Test.YtadooplpfhdhcaaGreatQ12
import Derived.Test.YtadooplpfhdhcaaGreatQ11
set_option linter.unusedSimpArgs false
set_option linter.unusedVariables false
set_option maxRecDepth 100000
set_option maxHeartbeats 4000000
namespace Go.Proofs.YtadooplpfhdhcaaGreat
open Go Go.RowKit Go.Maps Go.WideMaps
open Go.Lib (hid)
open Go.Proofs.Tryz
def GO (was:ByteArray) (k:Int) (r:Rec):Prop:=iY was k r∧r.root.size≤1048576∧r.name.size≤1048576∧Fits r.epoch∧Fits k
theorem EA (i:ap) (v:ai) (fb m n:Nat) (cv lv:Value) (cs:List ak) (bl:List ByteArray) (D:DataW Unit) (w:World) (h:al w i v) (hf:bU w i.vb fb m n cv lv cs bl D) (bk:i.rv= .pointer none) (hk:v.key.size=32) (bn:v.sealed.length≤1048576)
  (bm:∀(k:Nat) (x:aD),v.sealed[k]?=some x→GO (bO (v.sealed.take k)) (k:Int) x.r) (bo:∀(k:Nat) (x:aD),v.sealed[k]?=some x→x.r.epoch=v.epoch→ah x.tag (jj v.key.data.toList (bO (v.sealed.take k)).data.toList (k:Int) x.r)):
  Calls prog 125 #[.pointer (some ⟨fb,0,none⟩)] w fun e w'=>e= .returned (.int .i64 0)∧Below w.heap.size w w':=by
 have G:=hid hf;have B:=hid h;have a6:=hid hk;have a8:=hid bn;have J:=hid bm;have b0:=hid bo;obtain⟨q,hq⟩:∃q,v.sealed.length=q:=⟨_,rfl⟩;have X:=hid hq;obtain⟨ps,pc,S⟩:=az h.sealed;rw[hq]at S;have an:=hid (fun(c:World) (hx:ac c i.vb (jA i v.key v.data) 104)=>show c.cell? ⟨i.vb,7,none⟩=some (.pointer none)from by rw[←bk];exact hx.cell (i:=7) rfl);have f0:=hf.fnd.cell (i:=0) rfl;have v4:w.cell? ⟨i.vb,4,none⟩=some (.slice ps q pc):=by rw[←S];exact h.vol.cell (i:=4) rfl
 have aq:=hid S;clear hf h hk bn bm bo hq bk S;go_enter func125,ntmps125;go_wp2_with fail;go_loopw [13] (fun x wr=>∃k:Nat,k≤q∧x= .int .i64 (k:Int)∧Hid (Below w.heap.size w wr)) (fun x _=>q-(intOf x).toNat)
 case atStart=>exact⟨0,Nat.zero_le _,rfl,hid (Below.refl _ _)⟩
 case round=>
  obtain⟨k,hk,rfl,H⟩:=hrel;have cz:q≤1048576:=by have:=a8.out;have:=X.out;omega
  clear f0 v4
  by_cases cy:k<q
  ·have ci:(k:Int)<(q:Int):=by omega
   have b1:=hid (B.below H.out);have Q:=b1.sealed;rw[aq.out,X.out]at Q;obtain⟨g,co,z,he,Z,_,hG⟩:=ba Q (by omega)
   injection he with he hnn hcc
   subst he hcc;clear hnn;have L:=hid (fun(c:World) (hx:ac c i.vb (jA i v.key v.data) 104)=>show c.cell? ⟨i.vb,4,none⟩=some (.slice (some ⟨g,0,none⟩) q pc)from by rw[←aq.out];exact hx.cell (i:=4) rfl)
   have a7:=hid (fun(c:World) (hb:Below w.heap.size w c)=>show lB c g 0 q pc v.sealed from by
    have h9:=(B.below hb).sealed;rw[aq.out,X.out]at h9
    rcases dG.own h9 X.symm with⟨h0,_⟩|⟨g',o',c',he',hc',hg',hat⟩
    ·have:=X.out;rw[h0]at this;simp at this;omega
    ·injection he' with e1 e2 e3
     injection e1 with e1
     injection e1 with e4 e5 e6
     subst e4 e5 e3;exact⟨X.symm,by rw[←X.out];exact hc',hg',hat⟩)
   obtain⟨x,hx⟩:∃x,v.sealed[k]?=some x:=⟨_,List.getElem?_eq_getElem (by have:=X.out;omega)⟩;have HX:=hid hx;have cc:=hid Z;have b3:(k:Int)≤(pc:Int):=by omega
   have bx:=hid (show wr.rangeAt g (k*9) x.cells from by have:=(a7.out _ H.out).at_ k x hx;rwa[Nat.zero_add]at this);clear Q hG hx Z;obtain⟨xe,bs⟩:∃xe,x.r.epoch=xe:=⟨_,rfl⟩;have b2:=hid bs;have R:=hid (fun(c:World) (b:Nat) (hb:ac c b x.cells 61)=>show c.cell? ⟨b,1,none⟩=some (.int .i64 xe)from by rw[←bs];exact hb.cell (i:=1) rfl)
   have ad:=hid (fun(c:World) (b:Nat) (hb:ac c b x.cells 61)=>show c.rangeAt b 0 x.r.cells from fun j u hu=>hb.range j u (by
    match j,hu with
    |0,hu=>exact hu
    |1,hu=>exact hu
    |2,hu=>exact hu
    |3,hu=>exact hu
    |4,hu=>exact hu
    |5,hu=>exact hu
    |6,hu=>exact hu
    |7,hu=>exact hu
    |j+8,hu=>simp[Rec.cells]at hu))
   go_upto_region 4 with(first
    |((with_reducible refine ao 61 (.tmp 16) g (k*9) x.cells _ (some 17) bx.out underlying61 rfl fY ?hg ?ho ?hds ?hx ?_);(case ho|hg|hds|hx=>rfl))
    |((with_reducible refine ab 61 _ oN (some 4) ?hgd ?ho ?hd ?_);(case hgd|ho|hd=>rfl);(intro b4 w5 l5 B5 e5 z5))
    |((with_reducible refine aa 61 (.tmp 4) (.tmp 17) b4 (aD.cells ⟨Rec.zero,⟨#[]⟩⟩) x.cells 61 B5 rfl fY (fE _) ?hgd ?ho ?hx ?hy ?_);(case hgd|ho|hx|hy=>rfl);(intro w3 B3 o3))
    |fail)
   have bd:Below wr.heap.size wr w3:=o3.below (e5.mono l5) l5;have t:=hid (H.trans (bd.mono H.size));have p:=hid B3;have W:=hid (G.below t.out);have Y:=hid (B.below t.out);clear B5 B3 e5 z5 o3 l5 bd
   by_cases a1:xe=v.epoch
   ·have be:(xe==v.epoch)=true:=beq_iff_eq.2 a1
    have bw:=hid a1;refine hb (fun c=>c.cell? ⟨b4,1,none⟩=some (.int .i64 xe)∧c.cell? ⟨fb,0,none⟩=some (.pointer (some ⟨i.vb,0,none⟩))∧c.cell? ⟨i.vb,5,none⟩=some (.pointer (some ⟨i.bb,0,none⟩))) (⟨R.out _ _ p.drew,W.fnd.drew.cell (i:=0) rfl,Y.vol.drew.cell (i:=5) rfl⟩) fun a=> ?_
    obtain⟨wd,y⟩:∃c,c=w3.drew:=⟨_,rfl⟩;have o:Below w3.heap.size w3 wd:=by rw[y];exact(Below.refl _ _).drew
    have l:=hid (p.below o p.lt);have d:=hid (t.trans (o.mono t.size));have F:=hid (G.below d.out);have f:=hid (B.below d.out);rw[←y];rw[←y]at a;clear y o;refine hp 0 ?_;refine hp 1 ?_;refine hp 2 ?_;refine hp 3 ?_;refine hp 4 ?_;refine hp 5 ?_;refine hp 6 ?_;refine hp 7 ?_;refine hp 8 ?_;refine hp 9 ?_;refine hc 10 fun K O=> ?_
    go_simp
    refine(aR i.bb i.c2 v.first v.epoch i.m1 i.m2 i.m3 _ f.book).mono ?_
    rintro e w' ⟨rfl,rfl⟩
    (try go_wp2_with fail)
    refine O.out _ _ (⟨R.out _ _ l.out,F.fnd.cell (i:=0) rfl,f.vol.cell (i:=5) rfl⟩) fun _=> ?_
    clear O K a;rename_i a
    (try go_frame)
    refine hp 11 ?_;refine hd ?_;clear a;go_upto_region 5 with fail;refine hb (fun c=>c.rangeAt b4 0 x.r.cells∧c.cell? ⟨b4,8,none⟩=some (.string x.tag)∧c.cell? ⟨fb,0,none⟩=some (.pointer (some ⟨i.vb,0,none⟩))∧c.cell? ⟨i.vb,7,none⟩=some (.pointer none)∧c.cell? ⟨i.vb,1,none⟩=some (.string v.key)∧c.cell? ⟨i.vb,4,none⟩=some (.slice (some ⟨g,0,none⟩) q pc)) (⟨ad.out _ _ l.drew,l.drew.cell (i:=8) rfl,F.fnd.drew.cell (i:=0) rfl,an.out _ f.vol.drew,f.vol.drew.cell (i:=1) rfl,L.out _ f.vol.drew⟩) fun a=> ?_
    obtain⟨we,T⟩:∃c,c=wd.drew:=⟨_,rfl⟩;have P:Below wd.heap.size wd we:=by rw[T];exact(Below.refl _ _).drew
    have U:=hid (l.below P l.lt);have A:=hid (d.trans (P.mono d.size));have ce:=hid (G.below A.out);have cf:=hid (B.below A.out);rw[←T];rw[←T]at a;clear T P;refine hp 0 ?_;refine hp 1 ?_;refine hp 2 ?_;refine hp 3 ?_;refine hp 4 ?_;refine hp 5 ?_;refine hp 6 ?_;refine hp 7 ?_;refine hp 8 ?_;refine hp 9 ?_;refine hp 10 ?_;refine hp 11 ?_;refine hp 12 ?_;refine hp 13 ?_;refine hp 14 ?_;refine hp 15 ?_;refine hp 16 ?_;refine hp 17 ?_;refine hp 18 ?_;refine hp 19 ?_;refine hp 20 ?_;refine hp 21 ?_;refine hp 22 ?_;refine hp 24 ?_;refine hp 25 ?_;refine hl 26 59 b4 0 (x.r.cells) (fun w h=>h.1) underlying59 aV ?_;refine hp 28 ?_;refine hp 29 ?_;refine hc 23 fun K O=> ?_
    go_simp
    refine(oM _ (v.sealed.take k) _ ((a7.out _ A.out).take (by omega)) (by rw[List.length_take];have:=a8.out;omega)).mono ?_
    rintro e wf ⟨rfl,aA⟩;have C:=hid (U.below aA U.lt);have E:=hid (A.trans (aA.mono A.size));have a4:=hid (G.below E.out);have M:=hid (B.below E.out);clear aA
    (try go_wp2_with fail)
    refine O.out _ _ (⟨ad.out _ _ C.out,C.cell (i:=8) rfl,a4.fnd.cell (i:=0) rfl,an.out _ M.vol,M.vol.cell (i:=1) rfl,L.out _ M.vol⟩) fun _=> ?_
    clear O K a;rename_i a
    (try go_frame)
    refine hc 27 fun K O=> ?_
    go_simp
    refine(pX v.key (bO (v.sealed.take k)) (k:Int) x.r _ a6.out (J.out k x HX.out).1 (J.out k x HX.out).2.1 (J.out k x HX.out).2.2.1 (J.out k x HX.out).2.2.2.1 (J.out k x HX.out).2.2.2.2).mono ?_
    rintro e wg ⟨⟨s,rfl,ts⟩,a0⟩;obtain rfl:s=x.tag:=ts.eq (b0.out k x HX.out (b2.trans bw.out));have V:=hid (C.below a0 C.lt);have I:=hid (E.trans (a0.mono E.size));have a5:=hid (G.below I.out);have N:=hid (B.below I.out);clear a0 ts
    (try go_wp2_with fail)
    refine O.out _ _ (⟨ad.out _ _ V.out,V.cell (i:=8) rfl,a5.fnd.cell (i:=0) rfl,an.out _ N.vol,N.vol.cell (i:=1) rfl,L.out _ N.vol⟩) fun _=> ?_
    clear O K a;rename_i a
    (try go_frame)
    refine hp 30 ?_;refine hd ?_;clear a;go_wp2_with fail;go_roundw
    case rel=>exact⟨k+1,by omega,by go_num,I⟩
    case measure=>simp[intOf];omega
   ·have be:(xe==v.epoch)=false:=beq_eq_false_iff_ne.2 a1
    refine hb (fun c=>c.cell? ⟨b4,1,none⟩=some (.int .i64 xe)∧c.cell? ⟨fb,0,none⟩=some (.pointer (some ⟨i.vb,0,none⟩))∧c.cell? ⟨i.vb,5,none⟩=some (.pointer (some ⟨i.bb,0,none⟩))) (⟨R.out _ _ p.drew,W.fnd.drew.cell (i:=0) rfl,Y.vol.drew.cell (i:=5) rfl⟩) fun a=> ?_
    obtain⟨wd,y⟩:∃c,c=w3.drew:=⟨_,rfl⟩;have o:Below w3.heap.size w3 wd:=by rw[y];exact(Below.refl _ _).drew
    have l:=hid (p.below o p.lt);have d:=hid (t.trans (o.mono t.size));have F:=hid (G.below d.out);have f:=hid (B.below d.out);rw[←y];rw[←y]at a;clear y o;refine hp 0 ?_;refine hp 1 ?_;refine hp 2 ?_;refine hp 3 ?_;refine hp 4 ?_;refine hp 5 ?_;refine hp 6 ?_;refine hp 7 ?_;refine hp 8 ?_;refine hp 9 ?_;refine hc 10 fun K O=> ?_
    go_simp
    refine(aR i.bb i.c2 v.first v.epoch i.m1 i.m2 i.m3 _ f.book).mono ?_
    rintro e w' ⟨rfl,rfl⟩
    (try go_wp2_with fail)
    refine O.out _ _ (⟨R.out _ _ l.out,F.fnd.cell (i:=0) rfl,f.vol.cell (i:=5) rfl⟩) fun _=> ?_
    clear O K a;rename_i a
    (try go_frame)
    refine hp 11 ?_;refine hd ?_;clear a;go_wp2_with fail;go_roundw
    case rel=>exact⟨k+1,by omega,by go_num,d⟩
    case measure=>simp[intOf];omega
  ·obtain rfl:k=q:=by omega
   go_wp2_with fail;go_ret;exact⟨rfl,H.out⟩
theorem zZ (i:ap) (v:ai) (b:av) (P m n:Nat) (cv lv:Value) (cs:List ak) (bl:List ByteArray) (D:DataW Unit) (w:World) (h:al w i v) (hf:bU w i.vb P m n cv lv cs bl D) (a6:br v.U v.L v.G b)
  (a7:∀(k:Nat) (c:ak),cs[k]?=some c→bh c) (a4:∀(k:Nat) (c:ak),cs[k]?=some c→c.gone=b.gone c.epoch) (bo:cs.length≤4096):
  Calls prog 126 #[.pointer (some ⟨P,0,none⟩)] w fun e w'=>e= .returned (.int .i64 0)∧Below w.heap.size w w':=by
 have y:=hid hf;have F:=hid h;have O:=hid a6;have ad:=hid a7;have Z:=hid a4;obtain⟨q,hq⟩:∃q,cs.length=q:=⟨_,rfl⟩;have HQ:=hid hq;obtain⟨pc,cc,a3⟩:=az hf.cells;rw[hq]at a3;subst a3;have f1:w.cell? ⟨P,1,none⟩=some (.slice pc q cc):=hf.fnd.cell (i:=1) rfl;have Y:=hid (show q≤4096 from by omega);clear hf h a6 a7 a4 bo hq;go_enter func126,ntmps126;go_wp2_with fail;go_loopw [14] (fun x wr=>∃k:Nat,k≤q∧x= .int .i64 (k:Int)∧Hid (Below w.heap.size w wr)) (fun x _=>q-(intOf x).toNat)
 case atStart=>exact⟨0,Nat.zero_le _,rfl,hid (Below.refl _ _)⟩
 case round=>
  obtain⟨k,hk,rfl,u⟩:=hrel;have bv:q≤4096:=Y.out;clear f1
  by_cases bs:k<q
  ·have a5:(k:Int)<(q:Int):=by omega
   have Q:=hid (y.below u.out);have hcells:=Q.cells;rw[HQ.out]at hcells;obtain⟨g,bm,z,T,_,_,hG⟩:=ba hcells (by omega)
   injection T with T hnn hcc
   subst T hcc;clear hnn hcells;obtain⟨c,hc⟩:∃c,cs[k]?=some c:=⟨_,List.getElem?_eq_getElem (by have:=HQ.out;omega)⟩;have R:=hid (qC hG hc);have J:=hid (Z.out k c hc);have I:=hid (ad.out k c hc);obtain⟨A,sl,lb,S,ci⟩:=c;have H:=hid (show 0≤A∧A≤4294967295 from⟨I.e0,I.e1⟩);clear hG hc
   go_upto_region 5 with(first
       |((with_reducible refine ao 134 (.tmp 16) g (k*5) (ak.cells ⟨A,sl,lb,S,ci⟩) _ (some 17) R.out underlying134 rfl aX ?hg ?ho ?hds ?hx ?_);(case ho|hg|hds|hx=>rfl))
       |((with_reducible refine ab 134 _ zeroCell (some 5) ?hgd ?ho ?hd ?_);(case hgd|ho|hd=>rfl);(intro b5 w5 V X e5 z5))
       |((with_reducible refine aa 134 (.tmp 5) (.tmp 17) b5 cC (ak.cells ⟨A,sl,lb,S,ci⟩) 134 X rfl aX (bZ _) ?hgd ?ho ?hx ?hy ?_);(case hgd|ho|hx|hy=>rfl);(intro w3 W o3))
       |fail)
   have N:Below wr.heap.size wr w3:=o3.below (e5.mono V) V;have o:=hid (u.trans (N.mono u.size));have d:=hid W;have B:=hid (y.below o.out);have E:=hid (F.below o.out);clear X W e5 z5 o3 V N
   cases S with
   |true=>
    have M:=hid (show v.G.atKey (.int .i64 A) (.lit (.bool false))= .lit (.bool true)from by rw[O.g,←J.out]);refine hb (fun s=>s.cell? ⟨b5,3,none⟩=some (.bool true)∧s.cell? ⟨b5,0,none⟩=some (.int .i64 A)∧s.cell? ⟨P,0,none⟩=some (.pointer (some ⟨i.vb,0,none⟩))∧s.cell? ⟨i.vb,5,none⟩=some (.pointer (some ⟨i.bb,0,none⟩))) (⟨d.drew.cell (i:=3) rfl,d.drew.cell (i:=0) rfl,B.fnd.drew.cell (i:=0) rfl,E.vol.drew.cell (i:=5) rfl⟩) fun a=> ?_
    obtain⟨wd,p⟩:∃s,s=w3.drew:=⟨_,rfl⟩;have l:Below w3.heap.size w3 wd:=by rw[p];exact(Below.refl _ _).drew
    have t:=hid (d.below l d.lt);have f:=hid (o.trans (l.mono o.size));have C:=hid (y.below f.out);have r:=hid (F.below f.out);rw[←p];rw[←p]at a;clear p l;refine hp 0 ?_;refine hp 1 ?_;refine hp 2 ?_;refine hp 3 ?_;refine hp 4 ?_;refine hp 5 ?_;refine hp 6 ?_;refine hp 7 ?_;refine hp 8 ?_;refine hp 9 ?_;refine hp 10 ?_;refine hp 11 ?_;refine hc 12 fun K hK=> ?_
    go_simp
    refine(jt i.bb i.c2 i.m1 i.m2 i.m3 v.n v.first v.epoch A v.U v.L v.G true _ r.book r.maps H.out.1 H.out.2 (M.out)).mono ?_
    rintro e w' ⟨rfl,rfl⟩
    (try go_wp2_with fail)
    refine hK.out _ _ (⟨t.cell (i:=3) rfl,t.cell (i:=0) rfl,C.fnd.cell (i:=0) rfl,r.vol.cell (i:=5) rfl⟩) fun _=> ?_
    clear hK K a;rename_i a
    (try go_frame)
    refine hp 13 ?_;refine hp 14 ?_;refine hd ?_;clear a;go_wp2_with fail;go_roundw
    case rel=>exact⟨k+1,by omega,by go_num,f⟩
    case measure=>simp[intOf];omega
   |false=>
    have M:=hid (show v.G.atKey (.int .i64 A) (.lit (.bool false))= .lit (.bool false)from by rw[O.g,←J.out]);refine hb (fun s=>s.cell? ⟨b5,3,none⟩=some (.bool false)∧s.cell? ⟨b5,0,none⟩=some (.int .i64 A)∧s.cell? ⟨P,0,none⟩=some (.pointer (some ⟨i.vb,0,none⟩))∧s.cell? ⟨i.vb,5,none⟩=some (.pointer (some ⟨i.bb,0,none⟩))) (⟨d.drew.cell (i:=3) rfl,d.drew.cell (i:=0) rfl,B.fnd.drew.cell (i:=0) rfl,E.vol.drew.cell (i:=5) rfl⟩) fun a=> ?_
    obtain⟨wd,p⟩:∃s,s=w3.drew:=⟨_,rfl⟩;have l:Below w3.heap.size w3 wd:=by rw[p];exact(Below.refl _ _).drew
    have t:=hid (d.below l d.lt);have f:=hid (o.trans (l.mono o.size));have C:=hid (y.below f.out);have r:=hid (F.below f.out);rw[←p];rw[←p]at a;clear p l;refine hp 0 ?_;refine hp 1 ?_;refine hp 2 ?_;refine hn 3 ?_;refine hn 4 ?_;refine hn 5 ?_;refine hn 6 ?_;refine hn 7 ?_;refine hn 8 ?_;refine hn 9 ?_;refine hn 10 ?_;refine hn 11 ?_;refine hn 12 ?_;refine hn 13 ?_;refine hp 14 ?_;refine hd ?_;clear a;go_wp2_with fail;go_roundw
    case rel=>exact⟨k+1,by omega,by go_num,f⟩
    case measure=>simp[intOf];omega
  ·obtain rfl:k=q:=by omega
   have f1:wr.cell? ⟨P,1,none⟩=some (.slice pc k cc):=(y.below u.out).fnd.cell (i:=1) rfl;have bk:=u;go_wp2_with fail;go_loopw [3,39] (fun nn x wr=>nn= .int .i64 0∧∃j:Nat,j≤k∧x= .int .i64 (j:Int)∧Hid (Below w.heap.size w wr)) (fun _ x _=>k-(intOf x).toNat)
   case atStart=>exact⟨rfl,0,Nat.zero_le _,rfl,bk⟩
   case round=>
    obtain⟨rfl,j,hj,rfl,u⟩:=hrel;have bv:k≤4096:=Y.out;clear f1
    by_cases bs:j<k
    ·have a5:(j:Int)<(k:Int):=by omega
     have Q:=hid (y.below u.out);have hcells:=Q.cells;rw[HQ.out]at hcells;obtain⟨g,bm,z,T,_,_,hG⟩:=ba hcells (by omega)
     injection T with T hnn hcc
     subst T hcc;clear hnn hcells;obtain⟨c,hc⟩:∃c,cs[j]?=some c:=⟨_,List.getElem?_eq_getElem (by have:=HQ.out;omega)⟩;have R:=hid (qC hG hc);have J:=hid (Z.out j c hc);have I:=hid (ad.out j c hc);obtain⟨A,sl,lb,S,ci⟩:=c;have H:=hid (show 0≤A∧A≤4294967295 from⟨I.e0,I.e1⟩);clear hG hc
     go_upto_region 11 with(first
           |((with_reducible refine ao 134 (.tmp 41) g (j*5) (ak.cells ⟨A,sl,lb,S,ci⟩) _ (some 42) R.out underlying134 rfl aX ?hg ?ho ?hds ?hx ?_);(case ho|hg|hds|hx=>rfl))
           |((with_reducible refine ab 134 _ zeroCell (some 7) ?hgd ?ho ?hd ?_);(case hgd|ho|hd=>rfl);(intro b7 w5 V X e5 z5))
           |((with_reducible refine aa 134 (.tmp 7) (.tmp 42) b7 cC (ak.cells ⟨A,sl,lb,S,ci⟩) 134 X rfl aX (bZ _) ?hgd ?ho ?hx ?hy ?_);(case hgd|ho|hx|hy=>rfl);(intro w3 W o3))
           |fail)
     have N:Below wr.heap.size wr w3:=o3.below (e5.mono V) V;have o:=hid (u.trans (N.mono u.size));have d:=hid W;have B:=hid (y.below o.out);have E:=hid (F.below o.out);clear X W e5 z5 o3 V N
     cases S with
     |true=>
      have M:=hid (show v.G.atKey (.int .i64 A) (.lit (.bool false))= .lit (.bool true)from by rw[O.g,←J.out]);refine hb (fun s=>s.cell? ⟨b7,3,none⟩=some (.bool true)∧s.cell? ⟨b7,0,none⟩=some (.int .i64 A)∧s.cell? ⟨P,0,none⟩=some (.pointer (some ⟨i.vb,0,none⟩))∧s.cell? ⟨i.vb,5,none⟩=some (.pointer (some ⟨i.bb,0,none⟩))) (⟨d.drew.cell (i:=3) rfl,d.drew.cell (i:=0) rfl,B.fnd.drew.cell (i:=0) rfl,E.vol.drew.cell (i:=5) rfl⟩) fun a=> ?_
      obtain⟨wd,p⟩:∃s,s=w3.drew:=⟨_,rfl⟩;have l:Below w3.heap.size w3 wd:=by rw[p];exact(Below.refl _ _).drew
      have t:=hid (d.below l d.lt);have f:=hid (o.trans (l.mono o.size));have C:=hid (y.below f.out);have r:=hid (F.below f.out);rw[←p];rw[←p]at a;clear p l;refine hp 0 ?_;refine hp 1 ?_;refine hp 2 ?_;refine hn 3 ?_;refine hn 4 ?_;refine hn 5 ?_;refine hn 6 ?_;refine hn 7 ?_;refine hn 8 ?_;refine hn 9 ?_;refine hn 10 ?_;refine hn 11 ?_;refine hn 12 ?_;refine hn 13 ?_;refine hp 14 ?_;refine hd ?_;clear a;go_wp2_with fail;go_roundw
      case rel=>exact⟨rfl,j+1,by omega,by go_num,f⟩
      case measure=>simp[intOf];omega
     |false=>
      have M:=hid (show v.G.atKey (.int .i64 A) (.lit (.bool false))= .lit (.bool false)from by rw[O.g,←J.out]);refine hb (fun s=>s.cell? ⟨b7,3,none⟩=some (.bool false)∧s.cell? ⟨b7,0,none⟩=some (.int .i64 A)∧s.cell? ⟨P,0,none⟩=some (.pointer (some ⟨i.vb,0,none⟩))∧s.cell? ⟨i.vb,5,none⟩=some (.pointer (some ⟨i.bb,0,none⟩))) (⟨d.drew.cell (i:=3) rfl,d.drew.cell (i:=0) rfl,B.fnd.drew.cell (i:=0) rfl,E.vol.drew.cell (i:=5) rfl⟩) fun a=> ?_
      obtain⟨wd,p⟩:∃s,s=w3.drew:=⟨_,rfl⟩;have l:Below w3.heap.size w3 wd:=by rw[p];exact(Below.refl _ _).drew
      have t:=hid (d.below l d.lt);have f:=hid (o.trans (l.mono o.size));have C:=hid (y.below f.out);have r:=hid (F.below f.out);rw[←p];rw[←p]at a;clear p l;refine hp 0 ?_;refine hp 1 ?_;refine hp 2 ?_;refine hp 3 ?_;refine hp 4 ?_;refine hp 5 ?_;refine hp 6 ?_;refine hp 7 ?_;refine hp 8 ?_;refine hp 9 ?_;refine hp 10 ?_;refine hp 11 ?_;refine hc 12 fun K hK=> ?_
      go_simp
      refine(jt i.bb i.c2 i.m1 i.m2 i.m3 v.n v.first v.epoch A v.U v.L v.G false _ r.book r.maps H.out.1 H.out.2 (M.out)).mono ?_
      rintro e w' ⟨rfl,rfl⟩
      (try go_wp2_with fail)
      refine hK.out _ _ (⟨t.cell (i:=3) rfl,t.cell (i:=0) rfl,C.fnd.cell (i:=0) rfl,r.vol.cell (i:=5) rfl⟩) fun _=> ?_
      clear hK K a;rename_i a
      (try go_frame)
      refine hp 13 ?_;refine hp 14 ?_;refine hd ?_;clear a;go_wp2_with fail;go_roundw
      case rel=>exact⟨rfl,j+1,by omega,by go_num,f⟩
      case measure=>simp[intOf];omega
    ·obtain rfl:j=k:=by omega
     go_wp2_with fail;go_ret;exact⟨rfl,u.out⟩
def ot (key data:ByteArray) (gen clock n lbas first ep:Int) (t:Int) (d:am):ai:=⟨key,data,⟨gen,t,ep,clock,⟨n,lbas,first⟩⟩,t,[],[],first,first,0,clock, .map [], .map [], .map [],0,d⟩
structure CZ (k32:ByteArray) (clock lbas first ee:Int) (bl:List ByteArray) (log:List LE) (s:RS):Prop where
 key:k32.size=32
 ep:s.epoch=ee
 now:s.now≤clock
 len:s.sealed.length≤1048576
 may:∀(k:Nat) (x:aD),s.sealed[k]?=some x→GO (bO (s.sealed.take k)) (k:Int) x.r
 tags:∀(k:Nat) (x:aD),s.sealed[k]?=some x→x.r.epoch=ee→ah x.tag (jj k32.data.toList (bO (s.sealed.take k)).data.toList (k:Int) x.r)
 gone:∀(k:Nat) (c:ak),(cB log)[k]?=some c→c.gone=s.b.gone c.epoch
theorem Cc (db n t ep:Nat) (J clock o first:Int) (key A:ByteArray) (d:am) (log:List LE) (S:Nat→RS) (w:World) (h:aC w db d) (gl:A.size=16) (gm:eL (⟨J,(t:Int),(ep:Int),clock,⟨(n:Int),o,first⟩⟩:aF))
  (hd:d.down=false) (hc:d.cs.length≤4096) (hb:d.bs.length≤1024) (hn:d.bs.length=n) (hD:∀i,4+t≤i→i<n→d.shown i=(⟨(List.replicate 4096 0).toArray⟩:ByteArray)) (bA:(if ep % 2=0 then d.shown 3 else d.shown 2)=(⟨(List.replicate 4096 0).toArray⟩:ByteArray))
  (hF:∀wx,aC wx db d→Calls prog 198 #[.pointer (some ⟨db,0,none⟩)] wx fun e w'=>e= .returned (.tuple #[(⟨J,(t:Int),(ep:Int),clock,⟨(n:Int),o,first⟩⟩:aF).v, .string key, .int .i64 0])∧Below wx.heap.size wx w')
  (cx:dU) (et:log.length=t) (hP:gG first o log S (tailV d t)) (hM:CZ key clock o first (ep:Int) (tailV d t) log (S log.length)):
  Calls prog 46 #[.pointer (some ⟨db,0,none⟩), .string A, .pointer none] w fun e w'=>(∃(i:ap) (nb:Nat) (U L G:DataW Unit),e= .returned (.tuple #[.pointer (some ⟨i.vb,0,none⟩), .int .i64 0])∧i.rv= .pointer none∧i.db=db∧nb≤t∧br U L G (S log.length).b∧al w' i (rS (ot key A J clock n o first ep t d) (S log.length) nb U L G))∧Below w.heap.size w w':=by
 have hA:∀(x:Nat) (wx:World),True:=fun _ _=>trivial
 have dt:=@run_makeMap prog;have k2:(A.size:Int)=16:=by omega
 have k3:∀(a b c d e f g:Int) (w:World),Sem.run prog (Instr.field 163 (.agg #[.int .i64 a, .int .i64 b, .int .i64 c, .int .i64 d, .int .i64 e, .int .i64 f, .int .i64 g]) 4) w= .ok (.agg #[.int .i64 e, .int .i64 f, .int .i64 g]) w:=fun _ _ _ _ _ _ _ _=>by kernel_rfl
 have k4:∀(a b c d e f g:Int) (w:World),Sem.run prog (Instr.field 163 (.agg #[.int .i64 a, .int .i64 b, .int .i64 c, .int .i64 d, .int .i64 e, .int .i64 f, .int .i64 g]) 3) w= .ok (.int .i64 d) w:=fun _ _ _ _ _ _ _ _=>by kernel_rfl
 have k7:∀(a b c d e f g:Int) (w:World),Sem.run prog (Instr.field 163 (.agg #[.int .i64 a, .int .i64 b, .int .i64 c, .int .i64 d, .int .i64 e, .int .i64 f, .int .i64 g]) 2) w= .ok (.int .i64 c) w:=fun _ _ _ _ _ _ _ _=>by kernel_rfl
 have k8:∀(e f g:Int) (w:World),Sem.run prog (Instr.field 23 (.agg #[.int .i64 e, .int .i64 f, .int .i64 g]) 2) w= .ok (.int .i64 g) w:=fun _ _ _ _=>by kernel_rfl
 have e1:=hid h;have c8:=hid gm;have g5:=hid (vQ db n t ep J clock o first key d w h gm hd hc hb hn (fun i h1 h2=>hD i h1 h2) bA hF);have fI:=hid cx;have hY:=hid et;have c7:=hid hP;have Z:=hid hM;clear h gm hd hc hb hn hD bA hF gl cx et hP hM hA;go_enter func46,ntmps46;go_wp2_with fail;refine g5.mono ?_;rintro e wa ⟨⟨jb,sb,lv,rfl,hJ,hP,cw,ht,hu⟩,gc⟩;obtain⟨lp,lc,rfl⟩:=az cw;have g7:=hid (gp cw);have bm:=hid gc;have gH:=hid (e1.below gc);have b2:=hid hJ;have ea:=hid hP;have u:=hid (And.intro ht hu);clear gc hJ hP cw ht hu g5;go_wp2_with fail
 refine(pC _).mono ?_
 rintro e wb ⟨⟨xb,rfl,hX,hy⟩,be⟩;have d7:=hid (b2.below be b2.lt);have eb:=hid (ea.below be ea.lt);have cg:=hid hX;have gL:=hid (gH.below be);have g8:=hid (own_below be g7.out);have bn:=hid (bm.trans (be.mono bm.size));have y:=hid (show jb<xb from Nat.lt_of_lt_of_le b2.lt hy);clear be hX hy
 go_wp2_with (first
  |((with_reducible refine au 104 ?parts35 [.pointer (some ⟨jb,0,none⟩), .string key, .string A, .pointer (some ⟨xb,0,none⟩), .slice none 0 0, .pointer none, .pointer none, .pointer none] ?hg ?ho ?hf ?_);(case hg|ho=>rfl);(case hf=>kernel_rfl))
  |((with_reducible refine ae 104 (.tmp 35) [.pointer (some ⟨jb,0,none⟩), .string key, .string A, .pointer (some ⟨xb,0,none⟩), .slice none 0 0, .pointer none, .pointer none, .pointer none] (some 36) ?hgd ?ho ?hd ?hx ?_);(case hgd|ho|hd|hx=>rfl);(intro vb wc lc B2 e2 z2))
  |fail)
 have ad:Below wb.heap.size wb wc:=e2.mono lc;have z:=hid (show xb<vb from Nat.lt_of_lt_of_le cg.lt lc);have b3:=hid (d7.below ad d7.lt);have ec:=hid (eb.below ad eb.lt);have en:=hid (cg.below ad cg.lt);have gM:=hid (gL.below ad);have ha:=hid (own_below ad g8.out);have bo:=hid (bn.trans (ad.mono bn.size));have ej:=hid B2;clear B2 e2 z2 lc ad
 refine(fW jb db (.pointer (some ⟨sb,0,none⟩)) J (t:Int) (ep:Int) clock (n:Int) o first _ b3.out).mono ?_
 rintro e wd ⟨rfl,V⟩;have d8:=hid (b3.below V b3.lt);have ee:=hid (ec.below V ec.lt);have eq:=hid (en.below V en.lt);have a0:=hid (ej.below V ej.lt);have gN:=hid (gM.below V);have he:=hid (own_below V ha.out);have X:=hid (bo.trans (V.mono bo.size));clear V;go_wp2_with fail
 refine(qK first _ (by have:=c8.geo.f0;simpa using this) (by have:=c8.geo.f1;simpa using this)).mono ?_
 rintro e we ⟨⟨bb,c2,m1,m2,m3,rfl,hB,gb,hw,bl,hM,i4,i5,i6⟩,W⟩;have B:=hid (show vb<c2∧vb<bb from⟨Nat.lt_of_lt_of_le a0.lt bl,Nat.lt_of_lt_of_le a0.lt hw⟩);have g3:=hid (d8.below W d8.lt);have g6:=hid (ee.below W ee.lt);have hl:=hid (eq.below W eq.lt);have R:=hid (a0.below W a0.lt);have gO:=hid (gN.below W);have eg:=hid (own_below W he.out);have bt:=hid (X.trans (W.mono X.size));have kn:=hid (show bb≠c2 from by intro h;subst h;have h1:=hB;have h2:=gb;unfold ac at h1 h2;rw[h1]at h2;simp[aT]at h2);have gF:=hid (show ac we bb (aT c2 first first m1 m2 m3) 193 from hB);have eD:=hid gb;have d9:=hid hM;have h0:=hid (show w.heap.size≤m1∧w.heap.size≤m2∧w.heap.size≤m3 from by have:=X.size;omega);clear W hB gb hw bl hM i4 i5 i6;have k5:=R.cell (i:=5) rfl;have f5:=R.free 5;go_wp2_with fail;obtain⟨wf,a9⟩:∃wf,we.setCell ⟨vb,5,none⟩ (.pointer (some ⟨bb,0,none⟩))=wf:=⟨_,rfl⟩;have s:af [vb] we wf:=by rw[←a9];exact(af.refl _ _).setCell (.inl (by simp)) 5 _
 have co:w.heap.size≤vb:=by have:=u.out;have:=y.out;have:=z.out;omega
 have el:=hid (show ac wf vb [.pointer (some ⟨jb,0,none⟩), .string key, .string A, .pointer (some ⟨xb,0,none⟩), .slice none 0 0, .pointer (some ⟨bb,0,none⟩), .pointer none, .pointer none] 104 from by rw[←a9];exact(R.set 5 _).ext rfl);have b4:=hid (s.blk g3.out (by have:=u.out;have:=y.out;have:=z.out;have:=B.out;(try have:=C.out);simp;omega));have ef:=hid (s.blk g6.out (by have:=u.out;have:=y.out;have:=z.out;have:=B.out;(try have:=C.out);simp;omega));have er:=hid (s.blk hl.out (by have:=u.out;have:=y.out;have:=z.out;have:=B.out;(try have:=C.out);simp;omega));have d0:=hid (s.blk gF.out (by have:=u.out;have:=y.out;have:=z.out;have:=B.out;(try have:=C.out);simp;omega));have bx:=hid (s.blk eD.out (by have:=u.out;have:=y.out;have:=z.out;have:=B.out;(try have:=C.out);simp;omega));have g4:=hid (d9.turned s (by intro x hx hm;simp at hm;exact d9.ne R.out x hx hm));have gS:=hid (gO.turned s (by intro x hx hm;simp at hm;subst hm;have:=e1.lt x hx;omega));have hh:=hid (ay eg.out s (fun k hk=>(aN eg.out hk).notin (bQ.one R.ty) (by decide)));have bv:=hid (s.below bt.out (by intro x hx;simp at hx;subst hx;exact co) bt.size);rw[a9];clear a9 s co;clear k5 f5
 refine(fW jb db (.pointer (some ⟨sb,0,none⟩)) J (t:Int) (ep:Int) clock (n:Int) o first _ b4.out).mono ?_
 rintro e lb ⟨rfl,q⟩;have b5:=hid (b4.below q b4.lt);have b8:=hid (ef.below q ef.lt);have ci:=hid (er.below q er.lt);have cc:=hid (el.below q el.lt);have Y:=hid (d0.below q d0.lt);have N:=hid (bx.below q bx.lt);have fn:=hid (g4.below q);have e4:=hid (gS.below q);have fv:=hid (own_below q hh.out);have an:=hid (bv.trans (q.mono bv.size));clear q;go_wp2_with fail
 refine(kF clock _ c8.c0 c8.c1).mono ?_
 rintro e hN ⟨⟨cb,rfl,hC,bl⟩,r⟩;have C:=hid (show bb<cb∧c2<cb from⟨Nat.lt_of_lt_of_le Y.lt bl,Nat.lt_of_lt_of_le N.lt bl⟩);have e8:=hid (b5.below r b5.lt);have fr:=hid (b8.below r b8.lt);have f2:=hid (ci.below r ci.lt);have F:=hid (cc.below r cc.lt);have ex:=hid (Y.below r Y.lt);have c4:=hid (N.below r N.lt);have b7:=hid (fn.below r);have e5:=hid (e4.below r);have ca:=hid (own_below r fv.out);have aq:=hid (an.trans (r.mono an.size));have eN:=hid hC;clear r hC bl;have k6:=F.cell (i:=6) rfl;have f6:=F.free 6;have ia:=hid dt;clear dt;go_upto_region 9 with fail;obtain⟨wg2,P⟩:∃wg2,hN.setCell ⟨vb,6,none⟩ (.pointer (some ⟨cb,0,none⟩))=wg2:=⟨_,rfl⟩;have j:af [vb] hN wg2:=by rw[←P];exact(af.refl _ _).setCell (.inl (by simp)) 6 _
 have co:w.heap.size≤vb:=by have:=u.out;have:=y.out;have:=z.out;omega
 have ce:=hid (show ac wg2 vb [.pointer (some ⟨jb,0,none⟩), .string key, .string A, .pointer (some ⟨xb,0,none⟩), .slice none 0 0, .pointer (some ⟨bb,0,none⟩), .pointer (some ⟨cb,0,none⟩), .pointer none] 104 from by rw[←P];exact(F.set 6 _).ext rfl);have b6:=hid (j.blk e8.out (by have:=u.out;have:=y.out;have:=z.out;have:=B.out;(try have:=C.out);simp;omega));have b9:=hid (j.blk fr.out (by have:=u.out;have:=y.out;have:=z.out;have:=B.out;(try have:=C.out);simp;omega));have ck:=hid (j.blk f2.out (by have:=u.out;have:=y.out;have:=z.out;have:=B.out;(try have:=C.out);simp;omega));have bw:=hid (j.blk ex.out (by have:=u.out;have:=y.out;have:=z.out;have:=B.out;(try have:=C.out);simp;omega));have aA:=hid (j.blk c4.out (by have:=u.out;have:=y.out;have:=z.out;have:=B.out;(try have:=C.out);simp;omega));have b0:=hid (j.blk eN.out (by have:=u.out;have:=y.out;have:=z.out;have:=B.out;(try have:=C.out);simp;omega));have O:=hid (b7.turned j (by intro x hx hm;simp at hm;exact b7.ne F.out x hx hm));have e6:=hid (e5.turned j (by intro x hx hm;simp at hm;subst hm;have:=e1.lt x hx;omega));have fw:=hid (ay ca.out j (fun k hk=>(aN ca.out hk).notin (bQ.one F.ty) (by decide)));have M:=hid (j.below aq.out (by intro x hx;simp at hx;subst hx;exact co) aq.size);rw[P];clear P j co;clear k6 f6;have dt:=ia.out
 go_wp2_with (first
  |((with_reducible refine au 205 ?parts61 [.pointer (some ⟨vb,0,none⟩), .slice none 0 0, .map (some wg2.heap.size), .slice lp t lc] ?hg ?ho ?hf ?_);(case hg|ho=>rfl);(case hf=>kernel_rfl))
  |((with_reducible refine ae 205 (.tmp 61) [.pointer (some ⟨vb,0,none⟩), .slice none 0 0, .map (some wg2.heap.size), .slice lp t lc] (some 62) ?hgd ?ho ?hd ?hx ?_);(case hgd|ho|hd|hx=>rfl);(intro fb wg3 l3 B3 e3 z3))
  |fail)
 have E:Below wg2.heap.size wg2 wg3:=(((Below.refl _ _).alloc (Nat.le_refl _) _).trans (e3.mono (by have:=l3;simp at this;omega)));have e9:=hid (b6.below E b6.lt);have fs:=hid (b9.below E b9.lt);have f3:=hid (ck.below E ck.lt);have fT:=hid (ce.below E ce.lt);have ey:=hid (bw.below E bw.lt);have c5:=hid (aA.below E aA.lt);have e0:=hid (b0.below E b0.lt);have fo:=hid (O.below E);have e7:=hid (e6.below E);have fz:=hid (own_below E fw.out);have c3:=hid (M.trans (E.mono M.size));have b1:=hid B3;obtain⟨m,HM⟩:∃m,Hid (wg2.heap.size=m):=⟨_,rfl⟩;rw[HM.out]at b1;have hW:=hid (show wg2.heap.size≤fb from by have:=l3;simp at this;omega);have hq:=e3;have hG:=l3;clear E B3 e3 z3 l3;have hV:=hid (show wg3.ownsMap prog 3 (plainElem (H:=Unit) prog 4) m 0 (.map [])from by rw[←HM.out];exact(World.ownsMap_made wg2 prog 3 _).kept (below_grown (hq.mono hG)) (by simp));clear dt hq hG;obtain⟨Q,bk⟩:∃i,(⟨vb,jb,sb,db,xb,bb,c2,cb,m1,m2,m3, .slice none 0 0, .slice none 0 0, .pointer none⟩:ap)=i:=⟨_,rfl⟩;obtain⟨v0,dv⟩:∃v,ot key A J clock n o first ep t d=v:=⟨_,rfl⟩;have hU:=hid dv
 have gD:=hid (show jn w Q v0 fb m (.slice lp t lc) (tailV d t) log S 0 wg3 from by
  have hz:=c7.rep.zero;refine⟨.slice none 0 0, .slice none 0 0, .slice none 0 0,0,0, .map [], .map [], .map [], .map [], ?_,Nat.le_refl _,Nat.le_refl _,iQ.nil, ?_, ?_,c3.out, ?_⟩
  ·rw[hz];exact br.zero
  ·rw[hz,←bk,←dv]
   exact⟨fT.out,e9.out,fs.out,e7.out,f3.out,World.ownsRow_nil _ _ _ _,World.ownsRow_nil _ _ _ _,ey.out,c5.out,e0.out,fo.out,by have:=C.out;show c2≠cb;omega,⟨none,rfl⟩⟩
  ·rw[←bk]
   exact⟨b1.out,World.ownsRow_nil _ _ _ _,by rw[pH];exact fz.out,hV.out⟩
  ·rintro x (hx|hx|hx)<;>cases hx)
 have hZ:=hid (show ∀x,x∈[m,fb,Q.vb,Q.xb,Q.bb,Q.c2,Q.m1,Q.m2,Q.m3]→w.heap.size≤x from by
  intro x hx;rw[←bk]at hx;simp only[List.mem_cons,List.not_mem_nil,or_false]at hx;have h1:=u.out;have h2:=y.out;have h3:=z.out;have h4:=B.out;have h5:=h0.out;have h6:=HM.out;have h7:=M.size;have h8:=hW.out
  omega)
 have ib:=hid (show m≠Q.m1∧m≠Q.m2∧m≠Q.m3 from by
  rw[←bk];have h1:=O.lt m1 (.inl rfl);have h2:=O.lt m2 (.inr (.inl rfl));have h3:=O.lt m3 (.inr (.inr rfl));have h4:=HM.out
  show m≠m1∧m≠m2∧m≠m3
  omega)
 have c6:=hid (show Q.vb=vb∧Q.rv= .pointer none∧Q.db=db∧Q.jb=jb∧Q.sb=sb from by rw[←bk];exact⟨rfl,rfl,rfl,rfl,rfl⟩);have bd:=hid (show v0.first=first∧v0.last=⟨J,(t:Int),(ep:Int),clock,⟨(n:Int),o,first⟩⟩∧v0.clock=clock∧v0.key=key from by rw[←dv];exact⟨rfl,rfl,rfl,rfl⟩);rw[←c6.out.1];clear bk
 refine(GN w Q v0 fb m (.slice lp t lc) (tailV d t) log S _ gD.out (by rw[bd.out.1,bd.out.2.1];exact c7.out) ib.out fI.out hZ.out).mono ?_
 rintro e wk ⟨rfl,xv,sv,cv,nf,nb,U,L,G,D,a1,a2,a3,a4,a5,a6,a7,a8⟩;rw[List.take_of_length_le (Nat.le_refl _)]at a4 a6;obtain⟨i,hi⟩:∃i,({Q with xv:=xv,sv:=sv}:ap)=i:=⟨_,rfl⟩;obtain⟨v,hv⟩:∃v,rS v0 (S log.length) nb U L G=v:=⟨_,rfl⟩;have HI:=hid (show Q.vb=i.vb∧i.rv= .pointer none∧i.db=db∧i.jb=jb from by rw[←hi];exact⟨rfl,c6.out.2.1,c6.out.2.2.1,c6.out.2.2.2.1⟩);have I:=hid (show v.first=first∧v.epoch=(ep:Int)∧v.now=(S log.length).now∧v.last=⟨J,(t:Int),(ep:Int),clock,⟨(n:Int),o,first⟩⟩∧v.clock=clock∧v.key=key∧v.sealed=(S log.length).sealed from by rw[←hv];exact⟨bd.out.1,Z.ep,rfl,bd.out.2.1,bd.out.2.2.1,bd.out.2.2.2,rfl⟩);rw[hi,hv]at a5;have gT:=hid hv;have gE:=hid (And.intro a1 a2);have kl:=hid a4;have cf:=hid a5;have g1:=hid (show bU wk i.vb fb m nf cv (.slice lp t lc) (cB log) (tailV d t) D from by rw[←HI.out.1];exact a6);have d1:=hid a7;have fd:=hid (show br v.U v.L v.G (S log.length).b from by rw[←hv];exact a1);rw[HI.out.1];clear a1 a2 a3 a4 a5 a6 a7 a8 hi hv dv;go_upto_region 13 with fail;refine hb (fun wx=>wx.cell? ⟨i.vb,5,none⟩=some (.pointer (some ⟨i.bb,0,none⟩))∧wx.cell? ⟨i.vb,6,none⟩=some (.pointer (some ⟨i.cb,0,none⟩))) ⟨cf.vol.drew.cell (i:=5) rfl,cf.vol.drew.cell (i:=6) rfl⟩ fun l=> ?_
 obtain⟨wl,dT⟩:∃wx,wx=wk.drew:=⟨_,rfl⟩;have c9:Below wk.heap.size wk wl:=by rw[dT];exact(Below.refl _ _).drew
 have T:=hid (cf.below c9);have g2:=hid (g1.below c9);have d2:=hid (d1.trans (c9.mono d1.size));rw[←dT];rw[←dT]at l;clear dT c9;refine hp 0 ?_;refine hp 1 ?_;refine hp 2 ?_;refine hp 3 ?_;refine hp 5 ?_;refine hc 4 fun K hK=> ?_
 go_simp
 refine(aR i.bb i.c2 v.first v.epoch i.m1 i.m2 i.m3 _ T.book).mono ?_
 rintro e w' ⟨rfl,rfl⟩;rw[I.out.2.1]
 (try go_wp2_with fail)
 refine hK.out _ _ (⟨T.vol.cell (i:=5) rfl,T.vol.cell (i:=6) rfl⟩) fun _=> ?_
 clear hK K l;rename_i l
 (try go_frame)
 refine hc 6 fun K hK=> ?_
 go_simp;have gf:=fW i.jb i.db (.pointer (some ⟨i.sb,0,none⟩)) J (t:Int) (ep:Int) clock (n:Int) o first _ (by have h9:=T.jour;rw[I.out.2.2.2.1]at h9;exact h9);rw[HI.out.2.2.2]at gf;refine gf.mono ?_;clear gf;rintro e wm ⟨rfl,dc⟩;have p:=hid (T.below dc);have d5:=hid (g2.below dc);have d3:=hid (d2.trans (dc.mono d2.size));clear dc
 (try go_wp2_with fail)
 refine hK.out _ _ (⟨p.vol.cell (i:=5) rfl,p.vol.cell (i:=6) rfl⟩) fun _=> ?_
 clear hK K l;rename_i l
 (try go_frame)
 refine hp 7 ?_;refine hp 8 ?_;refine hp 9 ?_;refine hp 10 ?_;refine hp 11 ?_;refine hp 12 ?_;refine hp 13 ?_;refine hp 15 ?_;refine hp 16 ?_;refine hp 17 ?_;refine hp 18 ?_;refine hc 14 fun K hK=> ?_
 go_simp
 refine(ko i.bb i.c2 v.first v.epoch i.m1 i.m2 i.m3 _ p.book v.now p.bclock).mono ?_
 rintro e w' ⟨rfl,rfl⟩
 (try go_wp2_with fail)
 refine hK.out _ _ (⟨p.vol.cell (i:=5) rfl,p.vol.cell (i:=6) rfl⟩) fun _=> ?_
 clear hK K l;rename_i l
 (try go_frame)
 refine hc 19 fun K hK=> ?_
 go_simp
 refine(dC i.cb v.clock _ p.clock).mono ?_
 rintro e w' ⟨rfl,rfl⟩
 (try go_wp2_with fail)
 refine hK.out _ _ (⟨p.vol.cell (i:=5) rfl,p.vol.cell (i:=6) rfl⟩) fun _=> ?_
 clear hK K l;rename_i l
 (try go_frame)
 refine hp 20 ?_;refine hp 21 ?_;refine hd ?_;clear l;have kc:v.now≤v.clock:=by rw[I.out.2.2.1,I.out.2.2.2.2.1];exact Z.now
 go_wp2_with fail
 refine(EA i v fb m nf cv (.slice lp t lc) (cB log) (tailV d t) D _ p.out d5.out HI.out.2.1 (by rw[I.out.2.2.2.2.2.1];exact Z.key) (by rw[I.out.2.2.2.2.2.2];exact Z.len) (by rw[I.out.2.2.2.2.2.2];exact Z.may) (by rw[I.out.2.2.2.2.2.2,I.out.2.2.2.2.2.1,I.out.2.1];exact Z.tags)).mono ?_
 rintro e wn ⟨rfl,dg⟩;have em:=hid (p.below dg);have d6:=hid (d5.below dg);have d4:=hid (d3.trans (dg.mono d3.size));clear dg;go_wp2_with fail
 refine(zZ i v (S log.length).b fb m nf cv (.slice lp t lc) (cB log) (tailV d t) D _ em.out d6.out fd.out (fun k c hc=>by
  have h9:=c7.cells log.length k c;rw[List.take_of_length_le (Nat.le_refl _)]at h9;exact h9 hc) Z.gone (by have h9:=qD log log.length;rw[List.take_of_length_le (Nat.le_refl _)]at h9;have:=c7.few;omega)).mono ?_
 rintro e wo ⟨rfl,ds⟩;have hj:=hid (em.below ds);have jc:=hid (d6.below ds);have g0:=hid (d4.trans (ds.mono d4.size));clear ds;go_wp2_with fail;go_ret2;exact⟨⟨i,nb,U,L,G,rfl,HI.out.2.1,HI.out.2.2.1,by have:=gE.out.2;have:=hY.out;omega,gE.out.1,by rw[hU.out,gT.out];exact hj.out⟩,g0.out⟩
theorem m9 (x y:aF) (a b:ByteArray) (w:World) (ha:ah a (cG x)) (hx:eL x) (hb:ah b (cG y)) (hy:eL y):
  Calls prog 256 #[.string a, .string b] w fun e w'=>e= .returned (.tuple #[(if x.gen<y.gen then y else x).v, .int .i64 (if x.gen<y.gen then 1 else 0), .int .i64 0])∧Below w.heap.size w w':=by
 obtain⟨R,H⟩:∃R,R=if x.gen<y.gen then y else x:=⟨_,rfl⟩
 obtain⟨J,G⟩:∃J:Int,J=if x.gen<y.gen then 1 else 0:=⟨_,rfl⟩
 rw[←H,←G];have T:=hid H;have Q:=hid G;have U:=hid (And.intro ha hx);have V:=hid (And.intro hb hy);clear ha hx hb hy H G;go_enter func256,ntmps256
 go_wp2_with (first
  |((with_reducible refine ab 163 _ cX (some 4) ?hgd ?ho ?hd ?_);(case hgd|ho|hd=>rfl);(intro W w1 I N Y z1))
  |fail)
 have o:=hid N;have r:=hid (Y.mono I);have S:=hid I;clear N Y I z1
 refine(mc x a _ U.out.1 U.out.2).mono ?_
 rintro e w2 ⟨rfl,m⟩;have p:=hid (o.below m o.lt);have s:=hid (r.trans (m.mono r.size));clear m
 go_wp2_with (first
  |((with_reducible refine ab 163 _ cX (some 7) ?hgd ?ho ?hd ?_);(case hgd|ho|hd=>rfl);(intro X w3 K O Z z3))
  |((with_reducible refine aa 163 (.tmp 7) (.tmp 14) X aF.zero.cells x.cells 163 O rfl aQ (cJ _) ?hgd ?ho ?hx ?hy ?_);(case hgd|ho|hx|hy=>rfl);(intro w4 P o4))
  |fail)
 have n:Below w2.heap.size w2 w4:=o4.below (Z.mono K) K;have q:=hid (p.below n p.lt);have u:=hid P;have t:=hid (s.trans (n.mono s.size));clear O Z z3 K P o4 n
 refine(mc y b _ V.out.1 V.out.2).mono ?_
 rintro e C ⟨rfl,j⟩;have f:=hid (q.below j q.lt);have h:=hid (u.below j u.lt);have g:=hid (t.trans (j.mono t.size));clear j
 by_cases k:x.gen<y.gen
 ·obtain rfl:y=R:=(T.trans (if_pos k)).symm
  obtain rfl:J=1:=Q.trans (if_pos k)
  go_wp2_with (first
   |((with_reducible refine ab 163 _ cX (some 9) ?hgd ?ho ?hd ?_);(case hgd|ho|hd=>rfl);(intro B w6 z D F z6))
   |((with_reducible refine aa 163 (.tmp 9) (.tmp 19) B aF.zero.cells y.cells 163 D rfl aQ (cJ _) ?hgd ?ho ?hx ?hy ?_);(case hgd|ho|hx|hy=>rfl);(intro w7 A L;have c:Below C.heap.size C w7:=L.below (F.mono z) z;have l:=f.out.below c f.out.lt;have d:=h.out.below c h.out.lt;have q9:=A.cell (i:=0) rfl;have q7:=d.cell (i:=0) rfl))
   |((with_reducible refine aj 163 (.tmp 9) B y.cells 163 _ A underlying163 rfl aQ ?hgd ?ho ?hx ?_);(case hgd|ho|hx=>rfl))
   |((with_reducible refine aa 163 (.tmp 4) (.tmp 43) W aF.zero.cells y.cells 163 l rfl aQ (cJ _) ?hgd ?ho ?hx ?hy ?_);(case hgd|ho|hx|hy=>rfl);(intro w8 E M))
   |fail)
  (try simp only[Exit.inBlock,Exit.then]);refine bodyPost_ret (iV rfl _ _ E.range rfl underlying163 rfl aQ) rfl ⟨rfl,M.below (g.trans (c.mono g.size)) S.out⟩
 ·obtain rfl:x=R:=(T.trans (if_neg k)).symm
  obtain rfl:J=0:=Q.trans (if_neg k)
  go_wp2_with (first
   |((with_reducible refine ab 163 _ cX (some 9) ?hgd ?ho ?hd ?_);(case hgd|ho|hd=>rfl);(intro B w6 z D F z6))
   |((with_reducible refine aa 163 (.tmp 9) (.tmp 19) B aF.zero.cells y.cells 163 D rfl aQ (cJ _) ?hgd ?ho ?hx ?hy ?_);(case hgd|ho|hx|hy=>rfl);(intro w7 A L;have c:Below C.heap.size C w7:=L.below (F.mono z) z;have l:=f.out.below c f.out.lt;have d:=h.out.below c h.out.lt;have q9:=A.cell (i:=0) rfl;have q7:=d.cell (i:=0) rfl))
   |((with_reducible refine aj 163 (.tmp 7) X x.cells 163 _ d underlying163 rfl aQ ?hgd ?ho ?hx ?_);(case hgd|ho|hx=>rfl))
   |((with_reducible refine aa 163 (.tmp 4) (.tmp 44) W aF.zero.cells x.cells 163 l rfl aQ (cJ _) ?hgd ?ho ?hx ?hy ?_);(case hgd|ho|hx|hy=>rfl);(intro w8 E M))
   |fail)
  (try simp only[Exit.inBlock,Exit.then]);refine bodyPost_ret (iV rfl _ _ E.range rfl underlying163 rfl aQ) rfl ⟨rfl,M.below (g.trans (c.mono g.size)) S.out⟩
end Go.Proofs.YtadooplpfhdhcaaGreat
