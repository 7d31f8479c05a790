/- A finder (chapter 26): the segment of its cells of an epoch; whether a closure is right. What bytes begin with: texts, numbers, records, receipts; and that each leads back to its bytes (chapters 1, 19, 21). No program in sight. -/
import Derived.Test.YtadooplpfhdhcaaGreatQ35
import Derived.Test.YtadooplpfhdhcaaGreatQ7
import Derived.Test.YtadooplpfhdhcaaGreatQ22
import Derived.Test.YtadooplpfhdhcaaGreatQ2
import Derived.Deep.DeepAppendWide
import Derived.OneCell
import Derived.Test.YtadooplpfhdhcaaGreatQ31
import Derived.Test.YtadooplpfhdhcaaGreatQ6
import Derived.Deep.QuietTactic
import Derived.BigQuiet
import Derived.Deep.RegionWith
import Derived.Deep.DeepCutAuto
import Derived.Test.YtadooplpfhdhcaaGreatQ13
import Derived.Test.YtadooplpfhdhcaaGreatQ11
import Derived.Deep.RegionHeld3
set_option linter.unusedSimpArgs false
set_option linter.unusedVariables false
set_option maxRecDepth 100000
set_option maxHeartbeats 4000000
namespace Go.Proofs.YtadooplpfhdhcaaGreat
open Go Go.RowKit Go.Maps Go.WideMaps
open Go.Lib (hid)
open Go.Proofs.Tryz
theorem xg:∀(l:List ak) (k:Nat) (x:ak),l[k]?=some x→(eR l)[k*5]?=some (.int .i64 x.epoch)∧(eR l)[k*5+1]?=some (.int .i64 x.slot)∧(eR l)[k*5+2]?=some (.int .i64 x.lba)∧(eR l)[k*5+3]?=some (.bool x.gone)∧(eR l)[k*5+4]?=some (.string x.cipher)
 |[],k,x,h=>by simp at h
 |a::l,0,x,h=>by simp at h;subst h;exact⟨rfl,rfl,rfl,rfl,rfl⟩
 |a::l,k+1,x,h=>by
  have c:=xg l k x (by simpa using h)
  have e:∀j,(eR (a::l))[(k+1)*5+j]?=(eR l)[k*5+j]?:=fun j=>by
   show(a.cells++eR l)[(k+1)*5+j]?= _
   rw[List.getElem?_append_right (by show 5≤_;omega)]
   congr 1
   show _-5= _
   omega
  have b:=e 0;simp only[Nat.add_zero]at b;rw[b,e 1,e 2,e 3,e 4];exact c
theorem yj (l:List ak):(eR l).length=l.length*5:=by
 induction l with
 |nil=>rfl
 |cons a r ih=>show(a.cells++eR r).length= _;rw[List.length_append,ih,List.length_cons];show 5+_= _;omega
theorem qC {w:World} {g:Nat} {l:List ak} {z:List Value} {t:TypeId} (h:ac w g (eR l++z) t) {k:Nat} {x:ak} (b:l[k]?=some x):w.rangeAt g (k*5) x.cells:=by
 have hl:=(List.getElem?_eq_some_iff.1 b).1;have a:=xg l k x b;have c:=yj l;intro j u hu
 match j,hu with
 |0,hu=>simp[ak.cells]at hu;subst hu;exact h.cell (by rw[List.getElem?_append_left (by omega)];exact a.1)
 |1,hu=>simp[ak.cells]at hu;subst hu;exact h.cell (by rw[List.getElem?_append_left (by omega)];exact a.2.1)
 |2,hu=>simp[ak.cells]at hu;subst hu;exact h.cell (by rw[List.getElem?_append_left (by omega)];exact a.2.2.1)
 |3,hu=>simp[ak.cells]at hu;subst hu;exact h.cell (by rw[List.getElem?_append_left (by omega)];exact a.2.2.2.1)
 |4,hu=>simp[ak.cells]at hu;subst hu;exact h.cell (by rw[List.getElem?_append_left (by omega)];exact a.2.2.2.2)
 |j+5,hu=>simp[ak.cells]at hu
theorem Et {cs:List ak} {ep:Int} {k:Nat} {c:ak} (hc:cs[k]?=some c) (d:c.epoch=ep):cI (cs.take (k+1)) ep=cI (cs.take k) ep++[c]:=by
 obtain⟨a,b⟩:=List.getElem?_eq_some_iff.1 hc;unfold cI;rw[List.take_succ_eq_append_getElem a,List.filter_append,b];simp[d]
theorem GK {cs:List ak} {ep:Int} {k:Nat} {c:ak} (hc:cs[k]?=some c) (d:¬c.epoch=ep):cI (cs.take (k+1)) ep=cI (cs.take k) ep:=by
 obtain⟨a,b⟩:=List.getElem?_eq_some_iff.1 hc;unfold cI;rw[List.take_succ_eq_append_getElem a,List.filter_append,b];simp[d]
theorem Eu (ep:Int) (cs:List ak) (c:ak):dV ep (cs++[c])=(dV ep cs).put (.int .i64 c.lba) (.lit (.string (eV ep c.slot c.cipher.data.toList))):=by
 unfold dV;rw[List.foldl_append]
 rfl
theorem yl (vb W m n:Nat) (cv lv:Value) (cs:List ak) (bl:List ByteArray) (D:DataW Unit) (ep:Int) (w:World) (Z:bU w vb W m n cv lv cs bl D) (e0:0≤ep) (e1:ep≤4294967295) (L:∀(k:Nat) (c:ak),cs[k]?=some c→bh c) (X:cs.length≤4096):
  Calls prog 290 #[.pointer (some ⟨W,0,none⟩), .int .i64 ep] w fun e w'=>(∃v B nS,e= .returned (.pointer (some ⟨v,0,none⟩))∧dK w' v B nS ep (dV ep (cI cs ep)))∧Below w.heap.size w w':=by
 have E:=hid Z;have h:=hid (And.intro e0 e1);have R:=hid L;obtain⟨q,hq⟩:∃q,cs.length=q:=⟨_,rfl⟩;have C:=hid (show q≤4096 from by omega);have S:=hid hq;obtain⟨pc,cc,J⟩:=az Z.cells;rw[hq]at J;subst J;clear Z e0 e1 L X hq;go_enter func290,ntmps290;go_wp2_with fail
 refine(nC ep _ h.out.1 h.out.2).mono ?_
 rintro e w1 ⟨⟨v,B,rfl,M,hB,ad⟩,s⟩;have U:=hid M;have HB:=hid hB;have y:=hid s;have O:=hid (E.below s);have f1:w1.cell? ⟨W,1,none⟩=some (.slice pc q cc):=O.fnd.cell (i:=1) rfl;clear M hB ad s;go_wp2_with fail;go_loopw [19] (fun x wr=>∃k j:Nat,k≤q∧j≤k∧x= .int .i64 (k:Int)∧Hid (dK wr v B j ep (dV ep (cI (cs.take k) ep)))∧Hid (Below w.heap.size w wr)) (fun x _=>q-(intOf x).toNat)
 case atStart=>exact⟨0,0,Nat.zero_le _,Nat.le_refl _,rfl,U,y⟩
 case round=>
  obtain⟨k,j,hk,hj,rfl,H,f⟩:=hrel;have bo:q≤4096:=C.out
  by_cases bn:k<q
  ·have a8:(k:Int)<(q:Int):=by omega
   have P:=hid (E.below f.out);have hcells:=P.cells;rw[S.out]at hcells;obtain⟨g,be,z,Y,_,_,hG⟩:=ba hcells (by omega)
   injection Y with Y hnn hcc
   subst Y hcc;clear hnn hcells;obtain⟨c,hc⟩:∃c,cs[k]?=some c:=⟨_,List.getElem?_eq_getElem (by have:=S.out;omega)⟩;have b:=hid (R.out k c hc);have HC:=hid hc;have T:=hid (qC hG hc);clear hG hc
   go_upto_region 5 with(first
    |((with_reducible refine ao 134 (.tmp 21) g (k*5) c.cells _ (some 22) T.out underlying134 rfl aX ?hg ?ho ?hds ?hx ?_);(case ho|hg|hds|hx=>rfl))
    |((with_reducible refine ab 134 _ zeroCell (some 8) ?hgd ?ho ?hd ?_);(case hgd|ho|hd=>rfl);(intro I w5 l5 B5 e5 z5))
    |((with_reducible refine aa 134 (.tmp 8) (.tmp 22) I cC c.cells 134 B5 rfl aX (bZ _) ?hgd ?ho ?hx ?hy ?_);(case hgd|ho|hx|hy=>rfl);(intro w6 B6 o6))
    |fail)
   have t:Below wr.heap.size wr w6:=o6.below (e5.mono l5) l5;have a:=hid (f.trans (t.mono f.size));have G:=hid (H.below t);have l:=hid B6;clear B5 B6 e5 z5 o6 l5 t;obtain⟨ce,u⟩:∃ce,c.epoch=ce:=⟨_,rfl⟩;have y0:w6.cell? ⟨I,0,none⟩=some (.int .i64 ce):=by rw[←u];exact l.cell (i:=0) rfl
   have A:=hid u;clear u
   by_cases d:ce=ep
   ·have K:(ce==ep)=true:=beq_iff_eq.2 d
    have y1:w6.cell? ⟨I,1,none⟩=some (.int .i64 c.slot):=l.cell (i:=1) rfl;have y2:w6.cell? ⟨I,2,none⟩=some (.int .i64 c.lba):=l.cell (i:=2) rfl;have y4:w6.cell? ⟨I,4,none⟩=some (.string c.cipher):=l.cell (i:=4) rfl;have N:=hid d;clear d;go_wp2_with fail
    refine(mx v B j ep c.lba c.slot c.cipher (dV ep (cI (cs.take k) ep)) _ G.out (by have:=C.out;omega) h.out.1 h.out.2 b.s0 b.s1 b.l0 (by have:=b.l1;omega) b.n).mono ?_
    rintro e b0 ⟨⟨rfl,o⟩,p⟩;have F:=hid o;have r:=hid (p.below a.out (by intro x hx;simp at hx;subst hx;exact HB.out) a.size);clear o p y0 y1 y2 y4;go_wp2_with fail;go_roundw
    case rel=>exact⟨k+1,j+1,by omega,by omega,by go_num,hid (by rw[Et HC.out (by rw[A.out];exact N.out),Eu];exact F.out),r⟩
    case measure=>simp[intOf];omega
   ·have K:(ce==ep)=false:=beq_eq_false_iff_ne.2 d
    have Q:=hid d;go_wp2_with fail;go_roundw
    case rel=>exact⟨k+1,j,by omega,by omega,by go_num,hid (by rw[GK HC.out (by rw[A.out];exact Q.out)];exact G.out),a⟩
    case measure=>simp[intOf];omega
  ·obtain rfl:k=q:=by omega
   have V:=hid (show dK wr v B j ep (dV ep (cI cs ep))from by
    have h9:=H.out;rw[List.take_of_length_le (by rw[S.out];exact Nat.le_refl _)]at h9;exact h9)
   go_wp2_with fail;go_ret;exact⟨⟨v,B,j,rfl,V.out⟩,f.out⟩
theorem Ew (ep:Int) (cs:List ak):fL (cp ep cs):=by
 have:∀k,k≤cs.length→fL (cp ep (cs.take k)):=fun k=>by
  induction k with
  |zero=>intro _ j x a;cases a
  |succ k ih=>
   intro b j x a;have hc:cs[k]?=some cs[k]:=List.getElem?_eq_getElem (by omega);rw[fO hc]at a
   dsimp only at a
   split at a
   ·injection a with a
    rw[←a];exact jZ _ _ _
   ·exact ih (by omega) j x a
 have h:=this cs.length (Nat.le_refl _);rw[List.take_of_length_le (Nat.le_refl _)]at h;exact h
theorem ym (X C m n:Nat) (V W:Value) (cs:List ak) (U:List ByteArray) (D:DataW Unit) (r:Rec) (w:World) (hf:bU w X C m n V W cs U D) (hD:iQ D cs) (e0:0≤r.epoch) (I:r.epoch≤4294967295) (S:∀(k:Nat) (c:ak),cs[k]?=some c→bh c) (Q:cs.length≤4096)
  (R:r.count=(Maps.size (dV r.epoch (cI cs r.epoch)):Int)) (G:jz cs r.epoch=false→ah r.root (lK (bu (cp r.epoch (cI cs r.epoch)) 4096))):
  Calls prog 261 #[.pointer (some ⟨C,0,none⟩),r.v] w fun e w'=>e= .returned (.int .i64 0)∧Below w.heap.size w w':=by
 have P:=hid (fun(f:World) (hx:bU f X C m n V W cs U D)=>yl X C m n V W cs U D r.epoch f hx e0 I S Q);obtain⟨gv,F⟩:∃gv,jz cs r.epoch=gv:=⟨_,rfl⟩;have t:=hid (fun(f:World) (hx:bU f X C m n V W cs U D)=>show(Instr.lookup 191 (.map (some m)) (.int .i64 r.epoch) false).run prog f= .ok (.bool gv) f from by have:=mr hx.gone e0 I (hD.at' r.epoch);rw[F]at this;exact this)
 have Z:=hid (show ja (dV r.epoch (cI cs r.epoch)) (cp r.epoch (cI cs r.epoch))from by
  have:=(mB r.epoch (cI cs r.epoch) _ (Nat.le_refl _)).1
  rw[List.take_of_length_le (Nat.le_refl _)]at this;exact this)
 rw[F]at G;have an:=hid G;have M:=hid R;have O:=hid hf;have ad:=hid (show r.cells[1]?=some (.int .i64 r.epoch)from rfl);clear hf hD e0 I S Q R G F;go_enter func261,ntmps261
 go_wp2_with (first
  |((with_reducible refine ae 59 (.tmp 1) r.cells (some 3) ?hgd ?ho ?hd ?hx ?_);(case hgd|ho|hd|hx=>rfl);(intro H w1 l1 Y I z1;have q1:=Y.cell (i:=1) ad.out))
  |fail)
 have L:=hid Y;have A:=hid (I.mono l1);clear Y I l1 z1 q1
 refine(P.out _ (O.below A.out)).mono ?_
 rintro e J ⟨⟨ps,B,nS,rfl,T⟩,E⟩;have y:=hid T;have b:=hid (L.below E L.lt);have o:=hid (A.trans (E.mono A.size));have h:=hid (O.below o.out);clear T E;go_upto_region 2 with fail
 cases gv with
 |true=>
  refine hb (fun f=>f.cell? ⟨H,3,none⟩=some (.int .i64 r.count)∧f.cell? ⟨H,1,none⟩=some (.int .i64 r.epoch)∧f.cell? ⟨H,6,none⟩=some (.string r.root)∧f.cell? ⟨C,2,none⟩=some (.map (some m))∧(Instr.lookup 191 (.map (some m)) (.int .i64 r.epoch) false).run prog f= .ok (.bool true) f) (⟨b.drew.cell (i:=3) rfl,b.drew.cell (i:=1) rfl,b.drew.cell (i:=6) rfl,h.fnd.drew.cell (i:=2) rfl,t.out _ (h.below (Below.refl _ _).drew)⟩) fun a=> ?_
  obtain⟨wd,l⟩:∃f,f=J.drew:=⟨_,rfl⟩;have g:Below J.heap.size J wd:=by rw[l];exact(Below.refl _ _).drew
  have d:=hid (b.below g b.lt);have j:=hid (h.below g);have q:=hid (y.below g);have p:=hid (o.trans (g.mono o.size));rw[←l];rw[←l]at a;clear l g;refine hp 0 ?_;refine hp 1 ?_;refine hp 2 ?_;refine hc 3 fun K z=> ?_
  go_simp
  refine(ju ps B nS _ _ _ q.out).mono ?_
  rintro e w' ⟨rfl,rfl⟩;rw[←M.out]
  (try go_wp2_with fail)
  refine z.out _ _ (⟨d.cell (i:=3) rfl,d.cell (i:=1) rfl,d.cell (i:=6) rfl,j.fnd.cell (i:=2) rfl,t.out _ j.out⟩) fun _=> ?_
  clear z K a;rename_i a
  (try go_frame)
  refine hp 4 ?_;refine hp 5 ?_;refine hp 6 ?_;refine hp 7 ?_;refine hp 8 ?_;refine hp 9 ?_;refine hp 10 ?_;refine hp 11 ?_;refine hp 12 ?_;refine hp 13 ?_;refine hp 14 ?_;refine hn 15 ?_;refine hn 16 ?_;refine hn 17 ?_;refine hn 18 ?_;refine hn 19 ?_;refine hp 20 ?_;refine hp 21 ?_;refine hd ?_;clear a;go_wp2_with fail;go_ret;exact⟨rfl,p.out⟩
 |false=>
  refine hb (fun f=>f.cell? ⟨H,3,none⟩=some (.int .i64 r.count)∧f.cell? ⟨H,1,none⟩=some (.int .i64 r.epoch)∧f.cell? ⟨H,6,none⟩=some (.string r.root)∧f.cell? ⟨C,2,none⟩=some (.map (some m))∧(Instr.lookup 191 (.map (some m)) (.int .i64 r.epoch) false).run prog f= .ok (.bool false) f) (⟨b.drew.cell (i:=3) rfl,b.drew.cell (i:=1) rfl,b.drew.cell (i:=6) rfl,h.fnd.drew.cell (i:=2) rfl,t.out _ (h.below (Below.refl _ _).drew)⟩) fun a=> ?_
  obtain⟨wd,l⟩:∃f,f=J.drew:=⟨_,rfl⟩;have g:Below J.heap.size J wd:=by rw[l];exact(Below.refl _ _).drew
  have d:=hid (b.below g b.lt);have j:=hid (h.below g);have q:=hid (y.below g);have p:=hid (o.trans (g.mono o.size));rw[←l];rw[←l]at a;clear l g;refine hp 0 ?_;refine hp 1 ?_;refine hp 2 ?_;refine hc 3 fun K z=> ?_
  go_simp
  refine(ju ps B nS _ _ _ q.out).mono ?_
  rintro e w' ⟨rfl,rfl⟩;rw[←M.out]
  (try go_wp2_with fail)
  refine z.out _ _ (⟨d.cell (i:=3) rfl,d.cell (i:=1) rfl,d.cell (i:=6) rfl,j.fnd.cell (i:=2) rfl,t.out _ j.out⟩) fun _=> ?_
  clear z K a;rename_i a
  (try go_frame)
  refine hp 4 ?_;refine hp 5 ?_;refine hp 6 ?_;refine hp 7 ?_;refine hp 8 ?_;refine hp 9 ?_;refine hp 10 ?_;refine hp 11 ?_;refine hp 12 ?_;refine hp 13 ?_;refine hp 14 ?_;refine hp 15 ?_;refine hp 16 ?_;refine hp 17 ?_;refine hc 18 fun K z=> ?_
  go_simp
  refine(pu ps B nS r.epoch _ _ _ q.out Z.out (Ew _ _)).mono ?_
  rintro e we ⟨⟨sr,rfl,tr⟩,u⟩;obtain rfl:sr=r.root:=tr.eq (an.out (by first|rfl|trivial));have s:=hid (d.below u d.lt);have x:=hid (j.below u);have N:=hid (p.trans (u.mono p.size));clear tr u
  (try go_wp2_with fail)
  refine z.out _ _ (⟨s.cell (i:=3) rfl,s.cell (i:=1) rfl,s.cell (i:=6) rfl,x.fnd.cell (i:=2) rfl,t.out _ x.out⟩) fun _=> ?_
  clear z K a;rename_i a
  (try go_frame)
  refine hp 19 ?_;refine hp 20 ?_;refine hp 21 ?_;refine hd ?_;clear a;go_wp2_with fail;go_ret;exact⟨rfl,N.out⟩
def rj (l:List Int) (root name:List UInt8):Rec:=⟨l.getD 0 0,l.getD 1 0,l.getD 2 0,l.getD 3 0,l.getD 4 0,l.getD 5 0,⟨root.toArray⟩,⟨name.toArray⟩⟩
def fh (l:List UInt8):Option (Rec×List UInt8):=
 if l.length<29 then none else
 match bD [1,4,8,4,4,8] (l.take 29),eZ (l.drop 29)with
 |some ns,some (root,behind)=>
  match eZ behind with
  |some (name,left)=>if aI (rj ns root name)then some (rj ns root name,left)else none
  |none=>none
 |_,_=>none
theorem GL (a b c d e f:Int):da cY [a,b,c,d,e,f]=beBytes 1 a.toNat++(beBytes 4 b.toNat++(beBytes 8 c.toNat++(beBytes 4 d.toNat++(beBytes 4 e.toNat++beBytes 8 f.toNat)))):=by
 simp[da,cY]
theorem zT (w n:Nat) (s:List UInt8):(beBytes w n++s).take w=beBytes w n:=by
 rw[List.take_append_of_le_length (by rw[beBytes_length];omega),List.take_of_length_le (by rw[beBytes_length];omega)]
theorem zU (w n:Nat) (s:List UInt8):(beBytes w n++s).drop w=s:=by
 rw[List.drop_append_of_le_length (by rw[beBytes_length];omega),List.drop_of_length_le (by rw[beBytes_length];omega),List.nil_append]
theorem gC {w n:Nat} {a:List Nat} {s:List UInt8} (c:1≤w∧w≤8) (hn:n<256^w) (b:n<9223372036854775808):bD (w::a) (beBytes w n++s)=(bD a s).map ((n:Int)::·):=by
 simp only[bD];rw[zT,zU,ir w n hn,if_pos];rw[lj,beBytes_length,ir w n hn];omega
theorem Cb {r:Rec} (h:aI r=true) (s:List UInt8):fh (cD r++s)=some (r,s):=by
 have l:=dh h;obtain⟨k,e,t,c,g,u,b,a⟩:=r;simp only at l;have n:b.data.toList.length=b.size:=rfl;have m:a.data.toList.length=a.size:=rfl
 have i:cD ⟨k,e,t,c,g,u,b,a⟩++s=(beBytes 1 k.toNat++(beBytes 4 e.toNat++(beBytes 8 t.toNat++(beBytes 4 c.toNat++(beBytes 4 g.toNat++beBytes 8 u.toNat)))))++(cq b.data.toList++(cq a.data.toList++s)):=by
  show da cY [k,e,t,c,g,u]++cq b.data.toList++cq a.data.toList++s= _
  rw[GL];simp
 obtain⟨H,f⟩:∃H,H=(beBytes 1 k.toNat++(beBytes 4 e.toNat++(beBytes 8 t.toNat++(beBytes 4 c.toNat++(beBytes 4 g.toNat++beBytes 8 u.toNat))))):=⟨_,rfl⟩;have j:H.length=29:=by rw[f];simp[beBytes_length]
 have hu:bD [1,4,8,4,4,8] H=some [k,e,t,c,g,u]:=by
  rw[f];rw[gC (by omega) (by omega) (by omega),gC (by omega) (by omega) (by omega),gC (by omega) (by omega) (by omega),gC (by omega) (by omega) (by omega),gC (by omega) (by omega) (by omega)];rw[show beBytes 8 u.toNat=beBytes 8 u.toNat++[] by simp,gC (by omega) (by omega) (by omega)];simp only[bD,Option.map_some];rw[show((k.toNat:Nat):Int)=k by omega,show((e.toNat:Nat):Int)=e by omega,show((t.toNat:Nat):Int)=t by omega,show((c.toNat:Nat):Int)=c by omega,show((g.toNat:Nat):Int)=g by omega,show((u.toNat:Nat):Int)=u by omega]
 rw[i,←f];unfold fh;rw[if_neg (by rw[List.length_append];omega),List.take_append_of_le_length (by omega),List.take_of_length_le (by omega),hu,List.drop_append_of_le_length (by omega),List.drop_of_length_le (by omega),List.nil_append,jQ (by omega)];simp only;rw[jQ (by omega)];simp only
 have d:rj [k,e,t,c,g,u] b.data.toList a.data.toList=⟨k,e,t,c,g,u,b,a⟩:=by
  unfold rj;simp
 rw[d,if_pos h]
def Ey (l:List Rec):List Value:=l.flatMap Rec.cells
theorem IR (b:List Rec):∀(j:Nat) (y:Rec),b[j]?=some y→∀(i:Nat) (u:Value),y.cells[i]?=some u→(Ey b)[j*8+i]?=some u:=by
 induction b with
 |nil=>intro j y h;simp at h
 |cons a r ih=>
  intro j y h i u hu;have c:a.cells.length=8:=rfl
  show(a.cells++Ey r)[_]?= _
  cases j with
  |zero=>
   simp at h;subst h
   have:=(List.getElem?_eq_some_iff.1 hu).1
   rw[List.getElem?_append_left (by omega),Nat.zero_mul,Nat.zero_add];exact hu
  |succ j=>
   rw[List.getElem?_append_right (by omega),c,show(j+1)*8+i-8=j*8+i by omega];exact ih j y (by simpa using h) i u hu
theorem pK.below {w a:World} {v:Value} {l:List Rec} (h:pK w v l) {B:Nat} (hb:Below B w a) (k:w.heap.size≤B):pK a v l:=by
 refine h.imp id ?_;rintro⟨g,o,c,b,f,d⟩;exact⟨g,o,c,b,by have:=hb.size;omega,fun j x e i u hu=>by rw[hb.cell (by show g<B;omega)];exact d j x e i u hu⟩
theorem pK.own {w:World} {a n:Nat} {v:Value} {xs:List Rec} (h:w.ownsRow a 59 8 v n (Ey xs)) (hn:n=xs.length):pK w v xs:=by
 subst hn
 by_cases c:xs=[]
 ·subst c
  exact .inl ⟨rfl,lX h⟩
 ·obtain⟨g,b,z,rfl,hc,hb,e⟩:=ba h (List.length_pos_iff.2 c)
  refine .inr ⟨g,0,b,rfl,e.lt,fun j x f i u hu=> ?_⟩;refine e.cell ?_;have d:=IR xs j x f i u hu;rw[Nat.zero_add,List.getElem?_append_left (List.getElem?_eq_some_iff.1 d).1];exact d
theorem Rec.cells_one1 (x:Rec):∀v∈x.cells,v.oneCell'=true:=by intro v a;simp[Rec.cells]at a;rcases a with rfl|rfl|rfl|rfl|rfl|rfl|rfl|rfl<;>rfl
theorem rn {c:Func} {p u v:Tmp} {d:TypeId} (h:c.results=#[.cell p d, .tmp u, .tmp v]) (b:Array Value) (P:Program) (w:World):
  (results c b).run P w=((asAddr (b.getD p undef)).run P w).andThen fun a e=>((loadVar d a).run P e).andThen fun x w₂=> .ok (.tuple #[x,b.getD u undef,b.getD v undef]) w₂:=by
 simp only[results,h];simp[Sem.run_bind,Result.andThen]
theorem fG {f:Func} {p u v:Tmp} {c:TypeId} {cs:List Value} {d:TypeDesc} (h:f.results=#[.cell p c, .tmp u, .tmp v]) (a:Array Value) (w:World) {b:Nat} (hb:w.rangeAt b 0 cs) (hp:a.getD p undef= .pointer (some ⟨b,0,none⟩))
  (hu:prog.underlying c=some d) (hd:d.isRow=true) (g:(prog.info? c).map (·.size)=some cs.length):
  (results f a).run prog w= .ok (.tuple #[.agg cs.toArray,a.getD u undef,a.getD v undef]) w:=by
 have e:=run_loadVar_mid (P:=prog) w b 0 c cs _ hb hu hd g;rw[rn h,hp];simp only[asAddr,Sem.run_pure,Result.andThen_ok,e]
theorem zV (w:World):Sem.run prog (zeroValue 59) w= .ok (.agg Rec.zero.cells.toArray) w:=by kernel_rfl
def Ez (l:List UInt8) (e:Ending):Prop:=
 (∃r left y,fh l=some (r,left)∧e= .returned (.tuple #[r.v, .string y, .int .i64 0])∧ah y left)∨
 (fh l=none∧e= .returned (.tuple #[Rec.zero.v, .string ⟨#[]⟩, .int .i64 3]))
def m8:List Nat:=[1,4,8,4,4,8]
theorem K3:∀(k a:Nat),m8[k]?=some a→1≤a∧a≤8:=by
 intro k a h
 have:=List.mem_of_getElem? h
 simp[m8]at this;omega
theorem J7:0<m8.length:=by decide
theorem K4:m8.length≤16:=by decide
theorem J8:cY=m8.map (fun(a:Nat)=>(a:Int)):=rfl
theorem yG.any {l:List UInt8} {e:Ending} (h:yG l e):∃x y c,e= .returned (.tuple #[.string x, .string y, .int .i64 c])∧((c=0∧eZ l=some (x.data.toList,y.data.toList))∨(c=3∧eZ l=none)):=by
 rcases h with⟨a,b,x,y,h1,rfl,tx,ty⟩|⟨h1,rfl⟩
 ·exact⟨x,y,0,rfl, .inl ⟨rfl,by rw[h1,show x.data.toList= _ from tx,show y.data.toList= _ from ty]⟩⟩
 ·exact⟨_,_,3,rfl, .inr ⟨rfl,h1⟩⟩
theorem mO.any {d:List Nat} {l:List UInt8} {w f:World} {e:Ending} (h:mO d l w f e):∃b c,e= .returned (.tuple #[b, .int .i64 c])∧((c=0∧∃a,bD d l=some a∧f.ownsRow w.heap.size 3 1 b a.length (a.map (Value.int .i64))∧a.length=d.length)∨(c=3∧bD d l=none)):=by
 rcases h with⟨a,b,h1,rfl,h2,h3⟩|⟨h1,rfl⟩
 ·exact⟨b,0,rfl, .inl ⟨rfl,a,h1,h2,h3⟩⟩
 ·exact⟨_,3,rfl, .inr ⟨rfl,h1⟩⟩
theorem yn {l:List UInt8} (h:l.length<29):fh l=none:=by unfold fh;rw[if_pos h]
theorem zW {l:List UInt8} (h:¬l.length<29):fh l=match bD m8 (l.take 29),eZ (l.drop 29)with
 |some ns,some (root,behind)=>
  match eZ behind with
  |some (name,left)=>if aI (rj ns root name)then some (rj ns root name,left)else none
  |none=>none
 |_,_=>none:=by unfold fh m8;rw[if_neg h]<;>rfl
theorem IU {g:List Int} (h:g.length=6):∃a b c d e f,g=[a,b,c,d,e,f]:=by
 match g,h with
 |[a,b,c,d,e,f],_=>exact⟨a,b,c,d,e,f,rfl⟩
theorem yo {b:List Nat} {l:List UInt8} {c:List Int} (h:bD b l=some c):∀x∈c,Fits x:=by
 induction b generalizing l c with
 |nil=>simp only[bD]at h;injection h with h;subst h;intro x a;simp at a
 |cons w b ih=>
  simp only[bD]at h
  split at h
  ·next hg=>
   cases hr:bD b (l.drop w)with
   |none=>rw[hr]at h;cases h
   |some m=>
    rw[hr]at h;simp at h;subst h;intro x a
    rcases List.mem_cons.1 a with rfl|a
    ·have:=(lj.1 hg).2.2
     unfold Fits;omega
    ·exact ih hr x a
  ·cases h
theorem zX (s:ByteArray) (w:World) (hs:s.size≤1073741824):
  Calls prog 260 #[.string s] w fun e w'=>Ez s.data.toList e∧Below w.heap.size w w':=by
 have hl:s.data.toList.length=s.size:=rfl;have HL:=hid hl;clear hl;go_enter func260,ntmps260;go_wp2_with ((with_reducible refine ab 59 Rec.zero.cells zV (some 2) ?hgd ?ho ?hd ?_);(case hgd|ho|hd=>rfl);(intro U w2 T B2 e2 z2))
 refine(nq _).mono ?_
 rintro e w3 ⟨v3,rfl,a8,R⟩;have P:=hid (B2.below R z2);have Q:=hid ((e2.mono T).trans (R.mono (by have:=e2.size;omega)));clear B2 e2 z2 R;obtain⟨g3,o3,c3,rfl,cm,a4⟩:=a8.at (by decide);rw[show cY.length=6 from rfl];have bk:=hid a4;clear a4 a8;go_wp2_with fail;go_loop [5,19] (fun x i=>∃k:Nat,k≤6∧i= .int .i64 k∧x= .int .i64 ((sumTo m8 k:Nat):Int)) (fun _ i=>6-(intOf i).toNat)
 case atStart=>exact⟨0,by omega,rfl,rfl⟩
 case round=>
  obtain⟨k,hk,rfl,rfl⟩:=hrel;obtain⟨x,hx⟩:∃x,x=sumTo m8 k:=⟨_,rfl⟩;rw[←hx];have bx:x≤29:=by have:=sumTo_le m8 k;rw[←hx]at this;exact this
  have HX:=hid hx;clear hx
  by_cases a6:k<6
  ·have b4:(k:Int)<6:=by omega
   have cg:(0:Int)≤(k:Int):=by omega
   obtain⟨a,ha⟩:∃a,m8[k]?=some a:=⟨_,List.getElem?_eq_getElem (by exact a6)⟩;have ck:w3.cell? ⟨g3,o3+k,none⟩=some (.int .i64 (a:Int)):=bk.out k a (by rw[J8,List.getElem?_map,ha];rfl)
   have ci:a≤8:=by
    have:=fH ha
    have h:=(List.getElem?_eq_some_iff.1 ha);obtain⟨o,rfl⟩:=h
    have:∀(k:Nat) (h:k<m8.length),m8[k]≤8:=by decide
    exact this k o
   have S:=fH ha;rw[←HX.out]at S;have bm:=hid S;clear S ha;go_wp2_with fail;go_round
   case rel=>exact⟨k+1,by omega,by go_num,by rw[bm.out];go_num⟩
   case measure=>simp[intOf];omega
  ·obtain rfl:k=6:=by omega
   obtain rfl:x=29:=HX.out;clear HX bx a6
   by_cases c1:s.size<29
   ·have d1:(s.size:Int)<29:=by omega
    go_wp2_with ((with_reducible refine aa 59 (.tmp 2) (.tmp 31) U Rec.zero.cells Rec.zero.cells 59 P.out rfl aV (Rec.cells_one1 _) ?hgd ?ho ?hx ?hy ?_);(case hgd|ho|hx|hy=>rfl);(intro w9 u D))
    (try simp only[Exit.inBlock,Exit.then]);refine bodyPost_ret (fG rfl _ _ u.range rfl underlying59 rfl aV) rfl ⟨.inr ⟨yn (by rw[HL.out];omega),rfl⟩,D.below Q.out T⟩
   have d1:(29:Int)≤s.size:=by omega
   have a7:=zW (l:=s.data.toList) (by rw[HL.out];omega);have F:=hid a7;clear a7;have tz:ah (s.extract 0 29) (s.data.toList.take 29):=((ah.self s).extract 0 29).cast (by simp);have hz:(s.extract 0 29).size=29:=by rw[tz.size,List.length_take,HL.out];omega
   have HZ:=hid hz;clear hz;have TZ:=hid tz;clear tz;have ty:ah (s.extract 29 s.size) (s.data.toList.drop 29):=((ah.self s).extract 29 s.size).cast (by rw[List.take_of_length_le (by rw[HL.out];omega)]);have TY:=hid ty;clear ty;clear c1;go_wp2_with fail
   go_region_with ((first
    |(go_at_call 241;refine(nq _).mono ?_;rintro e wA ⟨vA,rfl,a9,a2⟩)
    |(go_at_call 216;refine(kH vA m8 (s.extract 0 29) _ a9 K3 (by rw[HZ.out];rfl) J7 K4).mono ?_;rintro e wB ⟨K,a3⟩;obtain⟨vo,cu,rfl,hu⟩:=K.any;clear K)
    |fail))
   have B:=bt ((Below.refl w3.heap.size w3).drew) (bt a2 a3);have V:=hid (P.below B (by have:=P.lt;exact this));have an:=hid (Q.trans (B.mono Q.size));clear B a2 a9;go_wp2_with fail
   refine(mN (s.extract 29 s.size) _).mono ?_
   rintro e wC ⟨K,C⟩;obtain⟨t,y1,f1,rfl,o⟩:=K.any;clear K;have X:=hid (V.below C V.lt);have aq:=hid (an.trans (C.mono an.size));go_wp2_with fail
   refine(mN y1 _).mono ?_
   rintro e m ⟨K,G⟩;obtain⟨n,y2,f2,rfl,E⟩:=K.any;clear K;have v:=hid (X.below G X.lt);have A:=hid (aq.trans (G.mono aq.size));rw[show(s.extract 0 29).data.toList= _ from TZ.out]at hu;rw[show(s.extract 29 s.size).data.toList= _ from TY.out]at o
   rcases hu with⟨rfl,ns,hu,hown,hlen⟩|⟨rfl,hu⟩
   rotate_left
   ·have y:Hid (fh s.data.toList=none):=hid (by rw[F.out,hu])
    clear hu o E;go_wp2_with ((with_reducible refine aa 59 (.tmp 2) (.tmp 64) U Rec.zero.cells Rec.zero.cells 59 v.out rfl aV (Rec.cells_one1 _) ?hgd ?ho ?hx ?hy ?_);(case hgd|ho|hx|hy=>rfl);(intro w9 u D))
    (try simp only[Exit.inBlock,Exit.then]);refine bodyPost_ret (fG rfl _ _ u.range rfl underlying59 rfl aV) rfl ⟨.inr ⟨y.out,rfl⟩,D.below A.out T⟩
   rcases o with⟨rfl,o⟩|⟨rfl,o⟩
   rotate_left
   ·have y:Hid (fh s.data.toList=none):=hid (by rw[F.out,hu,o])
    clear hu o E hown;go_wp2_with ((with_reducible refine aa 59 (.tmp 2) (.tmp 64) U Rec.zero.cells Rec.zero.cells 59 v.out rfl aV (Rec.cells_one1 _) ?hgd ?ho ?hx ?hy ?_);(case hgd|ho|hx|hy=>rfl);(intro w9 u D))
    (try simp only[Exit.inBlock,Exit.then]);refine bodyPost_ret (fG rfl _ _ u.range rfl underlying59 rfl aV) rfl ⟨.inr ⟨y.out,rfl⟩,D.below A.out T⟩
   rcases E with⟨rfl,E⟩|⟨rfl,E⟩
   rotate_left
   ·have y:Hid (fh s.data.toList=none):=hid (by rw[F.out,hu,o];simp only;rw[E])
    clear hu o E hown;go_wp2_with ((with_reducible refine aa 59 (.tmp 2) (.tmp 64) U Rec.zero.cells Rec.zero.cells 59 v.out rfl aV (Rec.cells_one1 _) ?hgd ?ho ?hx ?hy ?_);(case hgd|ho|hx|hy=>rfl);(intro w9 u D))
    (try simp only[Exit.inBlock,Exit.then]);refine bodyPost_ret (fG rfl _ _ u.range rfl underlying59 rfl aV) rfl ⟨.inr ⟨y.out,rfl⟩,D.below A.out T⟩
   have r:=yo hu;obtain⟨a,b,c,d,e,f,rfl⟩:=IU hlen;obtain⟨g,cc,z,rfl,a5,hg,q⟩:=ba hown (by simp)
   have M:fh s.data.toList=if aI ⟨a,b,c,d,e,f,t,n⟩then some (⟨a,b,c,d,e,f,t,n⟩,y2.data.toList)else none:=by
    rw[F.out,hu,o];simp only;rw[E]
    rfl
   have J:=hid M
   have bw:n.size≤1073741824:=by
    have q1:=Aq o;have q2:=Aq E;have e1:n.data.toList.length=n.size:=rfl;rw[List.length_drop,HL.out]at q1;omega
   have bs:Fits b:=r b (by simp);have j:=(q.below C q.lt).below G (by have:=q.lt;have:=C.size;omega);have be:=hid j;have i0:m.cell? ⟨g,0,none⟩=some (.int .i64 a):=j.cell (i:=0) rfl;have i1:m.cell? ⟨g,1,none⟩=some (.int .i64 b):=j.cell (i:=1) rfl;have i2:m.cell? ⟨g,2,none⟩=some (.int .i64 c):=j.cell (i:=2) rfl;have i3:m.cell? ⟨g,3,none⟩=some (.int .i64 d):=j.cell (i:=3) rfl;have i4:m.cell? ⟨g,4,none⟩=some (.int .i64 e):=j.cell (i:=4) rfl;have i5:m.cell? ⟨g,5,none⟩=some (.int .i64 f):=j.cell (i:=5) rfl;have bv:g<m.heap.size:=j.lt;clear M r hu o E hown hlen q j a3 C G hg a5;go_wp2_with fail;go_region_held3 (fun w'=>w'.cell? ⟨g,0,none⟩=some (.int .i64 a)∧w'.cell? ⟨g,1,none⟩=some (.int .i64 b)∧w'.cell? ⟨g,2,none⟩=some (.int .i64 c)∧w'.cell? ⟨g,3,none⟩=some (.int .i64 d)∧w'.cell? ⟨g,4,none⟩=some (.int .i64 e)∧w'.cell? ⟨g,5,none⟩=some (.int .i64 f)) (go_keep) (fail)
   all_goals
    have N:ac (m.alloc (Obj.cells #[.int .i64 a, .int .i64 b, .int .i64 c, .int .i64 d, .int .i64 e, .int .i64 f, .string t, .string n] 59)).drew m.heap.size (Rec.cells ⟨a,b,c,d,e,f,t,n⟩) 59:=ac.new m (Rec.cells ⟨a,b,c,d,e,f,t,n⟩) 59;have p:Below m.heap.size m (m.alloc (Obj.cells #[.int .i64 a, .int .i64 b, .int .i64 c, .int .i64 d, .int .i64 e, .int .i64 f, .string t, .string n] 59)).drew:=((Below.refl _ _).alloc (Nat.le_refl _) _).drew;obtain⟨wE,bb⟩:∃W,(m.alloc (Obj.cells #[.int .i64 a, .int .i64 b, .int .i64 c, .int .i64 d, .int .i64 e, .int .i64 f, .string t, .string n] 59)).drew=W:=⟨_,rfl⟩;rw[bb]at N p ⊢;have Y:=hid (v.below p v.lt);have aA:=hid (A.trans (p.mono A.size));have O:=hid N;clear bb N p i0 i1 i2 i3 i4 i5 be bv;go_wp2_with ((with_reducible refine aj 59 (.tmp 16) m.heap.size (Rec.cells ⟨a,b,c,d,e,f,t,n⟩) 59 _ O.out underlying59 rfl aV ?hgd ?ho ?hx ?_);(case hgd|ho|hx=>rfl))
    refine(iW ⟨a,b,c,d,e,f,t,n⟩ _ bw bs).mono ?_
    rintro e wF ⟨rfl,H⟩;have Z:=hid (Y.below H Y.lt);have a0:=hid (aA.trans (H.mono aA.size));have I:=hid (O.below H O.lt);clear H
    cases hok:aI ⟨a,b,c,d,e,f,t,n⟩with
    |false=>
     rw[qM hok];have L:=J.out;rw[hok]at L;simp only[Bool.false_eq_true,if_false]at L;have HR:=hid L;clear L hok
     go_wp2_with (first
      |((with_reducible refine aj 59 (.tmp 16) m.heap.size (Rec.cells ⟨a,b,c,d,e,f,t,n⟩) 59 _ I.out underlying59 rfl aV ?hgd ?ho ?hx ?_);(case hgd|ho|hx=>rfl))
      |((with_reducible refine aa 59 (.tmp 2) (.tmp 89) U Rec.zero.cells (Rec.zero.cells) 59 Z.out rfl aV (Rec.cells_one1 _) ?hgd ?ho ?hx ?hy ?_);(case hgd|ho|hx|hy=>rfl);(intro w9 u D))
      |fail)
     (try simp only[Exit.inBlock,Exit.then]);refine bodyPost_ret (fG rfl _ _ u.range rfl underlying59 rfl aV) rfl ⟨.inr ⟨HR.out,rfl⟩,D.below a0.out T⟩
    |true=>
     rw[me hok];have L:=J.out;rw[hok,if_pos rfl]at L;have HR:=hid L;clear L hok
     go_wp2_with (first
      |((with_reducible refine aj 59 (.tmp 16) m.heap.size (Rec.cells ⟨a,b,c,d,e,f,t,n⟩) 59 _ I.out underlying59 rfl aV ?hgd ?ho ?hx ?_);(case hgd|ho|hx=>rfl))
      |((with_reducible refine aa 59 (.tmp 2) (.tmp 90) U Rec.zero.cells (Rec.cells ⟨a,b,c,d,e,f,t,n⟩) 59 Z.out rfl aV (Rec.cells_one1 _) ?hgd ?ho ?hx ?hy ?_);(case hgd|ho|hx|hy=>rfl);(intro w9 u D))
      |fail)
     (try simp only[Exit.inBlock,Exit.then]);refine bodyPost_ret (fG rfl _ _ u.range rfl underlying59 rfl aV) rfl ⟨.inl ⟨_,_,_,HR.out,rfl,ah.self _⟩,D.below a0.out T⟩
end Go.Proofs.YtadooplpfhdhcaaGreat
