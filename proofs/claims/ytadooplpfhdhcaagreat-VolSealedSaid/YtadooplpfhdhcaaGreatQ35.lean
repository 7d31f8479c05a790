/- Paths in trees of hashes (chapter 15): merkle.Path, of any row of hashes. -/
import Derived.Test.YtadooplpfhdhcaaGreatQ29
import Derived.Test.YtadooplpfhdhcaaGreatQ34
import Derived.Test.YtadooplpfhdhcaaGreatQ10
import Derived.Test.YtadooplpfhdhcaaGreatQ26
import Derived.Test.YtadooplpfhdhcaaGreatQ5
set_option linter.unusedSimpArgs false
set_option linter.unusedVariables false
set_option maxRecDepth 100000
set_option maxHeartbeats 4000000
namespace Go.Proofs.YtadooplpfhdhcaaGreat
open Go Go.RowKit
open Go.Lib (hid)
open Go.Proofs.Tryz
attribute [local go_sem] Go.Oper.semAt_some
theorem wK {P:Program} {r n:Nat} {Q:Exit→Act→World→Prop} {id:Nat} {l:List Oper} {a:Act} {w:World} (S:World→Prop) (c:S w.drew) (h:S w.drew→wpAnyH P .any l.toArray Q S l.toArray.size (Array.replicate l.toArray.size false) a w.drew)
  (hc:tW l.toArray=true:=by kernel_rfl) (b:¬LetsOut Q:=by(rintro⟨_,_,h⟩;exact h)) (d:P.follows .mixedOrders=true:=by kernel_rfl):(Code.region id l.toArray true).wpIn (Fence.wide.inRound r) n P Q a w:=
 wpIn_region_any d (I3 hc b _ _ _ _ (wpAny_of_held _ _ _ _ (h c)))
def iJ (bo:Nat) (W:World) (k:Nat):Prop:=∃v,W.cell? ⟨bo,0,none⟩=some v∧v.ownBlock=some k
def wL (bo:Nat) (W:World):Prop:=∀k,iJ bo W k→k<W.heap.size
structure kY (bi bo:Nat) (A B:World):Prop where
 size:A.heap.size≤B.heap.size
 same:∀(k:Nat) (o:Obj),A.heap[k]?=some o→o.isCells=true→k≠bi→k≠bo→¬iJ bo A k→B.heap[k]?=some o
 fine:wL bo A→wL bo B
 near:∀k,iJ bo B k→iJ bo A k∨A.heap.size≤k
def Apart (bi bo:Nat) (W:World) (v:Value):Prop:=∀k,v.ownBlock=some k→k≠bi∧k≠bo∧¬iJ bo W k
theorem kY.own {c d:Nat} {w l:World} {v:Value} {n:Nat} {xs:List Value} {e:TypeId} {size:Nat} (h:kY c d w l) (j:w.ownsRow 0 e size v n xs) (hb:Apart c d w v):l.ownsRow 0 e size v n xs∧Apart c d l v:=by
 refine⟨⟨j.1,j.2.imp id ?_⟩,fun k b=>⟨(hb k b).1,(hb k b).2.1,fun s=> ?_⟩⟩
 ·rintro⟨g,f,i,rfl,m,q,r⟩
  obtain⟨a,o,p⟩:=hb g rfl;exact⟨g,f,i,rfl,m,h.same g _ q rfl a o p,r⟩
 ·rcases h.near k s with a|a
  ·exact(hb k b).2.2 a
  ·have:=(j.lt k b).2
   omega
theorem tI {a:Nat} {W b:World} (h:b.heap[a]?=W.heap[a]?) {k:Nat}:iJ a b k↔iJ a W k:=by
 unfold iJ World.cell?;rw[h]
theorem Dz {a b:Nat} {A B C:World} (h:kY a b A B) (k:kY a b B C):kY a b A C where
 size:=Nat.le_trans h.size k.size
 same:=fun i o g hc c d e=>k.same i o (h.same i o g hc c d e) hc c d (fun m=>(h.near i m).elim e (fun f=>by have:=(Array.getElem?_eq_some_iff.1 g).1;omega))
 fine:=fun j=>k.fine (h.fine j)
 near:=fun i l=>(k.near i l).elim (h.near i) (fun f=> .inr (Nat.le_trans h.size f))
theorem Ii {n g:Nat} (W:World) (l:Nat) (o h:Obj) (hl:W.heap[l]?=some o) (hc:o.isCells=false) (i:g≠l):kY n g W (W.putObj l h):=by
 have q:=xG (b:=0) W l o h hl hc;have j:(W.putObj l h).heap.size=W.heap.size:=by simp[World.putObj]
 have a:∀k,iJ g (W.putObj l h) k→iJ g W k:=fun k c=>(tI (World.putObj_heap_other i)).1 c
 refine⟨q.size,fun k x d f _ _ _=> ?_,fun p k c=>by rw[j];exact p k (a k c),fun k c=> .inl (a k c)⟩
 by_cases m:k=l
 ·subst m
  rw[hl]at d
  injection d with d
  subst d;rw[hc]at f
  cases f
 ·exact(World.putObj_heap_other (fun e:k=l=>m e)).trans d
theorem AQ {e c:Nat} {W b:World} {v v':Value} {t:TypeId} (g:ac W c [v] t) (a:ac b c [v'] t) (h:ai (e::c::v.ownBlock.toList) W b) (hn:eI W v.ownBlock v'.ownBlock) (hl:∀k,v'.ownBlock=some k→k<b.heap.size):kY e c W b where
 size:=h.size
 same:=fun k o f _ h1 h2 h3=>(h.block k (Array.getElem?_eq_some_iff.1 f).1 (fun d=>by
  simp only[List.mem_cons,Option.mem_toList,Option.mem_def]at d
  rcases d with rfl|rfl|d
  ·exact h1 rfl
  ·exact h2 rfl
  ·exact h3 ⟨v,g.cell (i:=0) rfl,d⟩)).trans f
 fine:=fun _ k ⟨x,hx,hk⟩=>by
  rw[a.cell (i:=0) rfl]at hx
  injection hx with hx
  subst hx;exact hl k hk
 near:=fun k ⟨x,hx,hk⟩=>by
  rw[a.cell (i:=0) rfl]at hx
  injection hx with hx
  subst hx
  rcases hn with h1|h1
  ·exact .inl ⟨v,g.cell (i:=0) rfl,by rw[←h1];exact hk⟩
  ·exact .inr (h1 k hk)
theorem AS {S:List Nat} {W W':World} (h:ai S W W') (d:∀x∈S,∃o:Obj,W.heap[x]?=some o∧o.isCells=true):KeepsOthers W W':=
 ⟨h.size,fun k o b hc=>(h.block k (Array.getElem?_eq_some_iff.1 b).1 (fun e=>by
   obtain⟨f,a,c⟩:=d k e;rw[b]at a
   injection a with a
   subst a;rw[hc]at c
   cases c)).trans b⟩
theorem Ij {w:World} {a n size:Nat} {e:TypeId} {v:Value} {xs:List Value} (h:w.ownsRow a e size v n xs) {k:Nat} (b:v.ownBlock=some k):∃o:Obj,w.heap[k]?=some o∧o.isCells=true:=by
 rcases h.2 with⟨rfl,_⟩|⟨g,cap,cur,rfl,_,hg,_⟩
 ·cases b
 ·injection b with b
  subst b;exact⟨_,hg,rfl⟩
theorem y8 (b t a:Nat) (p:Option Addr) (n c:Nat) (xs:List ByteArray) (w:World) (hb:ac w b [.slice p n c] 45) (ho:w.ownsRow 0 9 1 (.slice p n c) n (xs.map .string)) (hl:xs.length=n) (hs:∀x∈xs,x.size=32) (hn:n≤65536) (F:t<w.heap.size) (X:a<w.heap.size) (L:wL a w) (o:Apart t a w (.slice p n c)):
  EU prog 294 #[.pointer (some ⟨b,0,none⟩)] lz (fun pre x W=>pG x W∧pre.length≤n) (kY t a) (fun ys=>ys.map cO.xs=bu n xs) w:=by
 intro r J W q hJ hY h0;have HB:=hid (hb.below q hb.lt);have HO:=hid (own_below q ho);have HL:=hid hl;have HS:=hid hs;have HY:=hid hY;have HJ:=hid hJ;have H0:=hid h0;have P:=hid (Nat.lt_of_lt_of_le F q.size);have H4:=hid (Nat.lt_of_lt_of_le X q.size);have d:∀k,iJ a W k↔iJ a w k:=fun k=>tI (q.block a X)
 have N:=hid (show wL a W from fun k s=>Nat.lt_of_lt_of_le (L k ((d k).1 s)) q.size);have R:=hid (show Apart t a W (.slice p n c)from fun k s=>⟨(o k s).1,(o k s).2.1,fun Z=>(o k s).2.2 ((d k).1 Z)⟩);clear hb ho hl hs hY hJ h0 X F o q L d;have cb:=HB.cell (i:=0) rfl;refine callsIn_of_wp func294 rfl trivial ?_ rfl;simp only[ntmps294,List.size_toArray,List.length_cons,List.length_nil,Nat.reduceAdd,Nat.reduceSub,Array.replicate_succ,Array.replicate_zero,List.push_toArray,List.append_toArray,List.nil_append,List.cons_append]
 gi_wp2_with fail
 refine jW ?_
 gi_wp2_with fail
 refine wpIn_label ?_
 gi_wp2_with fail
 gi_loopw [3] (fun C wr=>∃(pre:List cO) (y:cO),C= .slice y.p y.n y.c∧Hid (J pre wr)∧Hid (pG y wr)∧Hid (∀x∈y.xs,x.size=32)∧y.n≤65536∧Hid (Apart t a wr (.slice y.p y.n y.c))∧Hid (wL a wr)∧Hid (t<wr.heap.size∧a<wr.heap.size)∧Hid (∃f,y.n≤f∧bu n xs=pre.map cO.xs++bu f y.xs)) (fun C _=>sliceLen C)
 case atStart=>exact⟨[],⟨p,n,c,xs⟩,rfl,H0,hid ⟨HO.out,HL.out⟩,HS,hn,R,N,hid ⟨P.out,H4.out⟩,hid ⟨n,Nat.le_refl _,rfl⟩⟩
 case round=>
  obtain⟨pre,y,rfl,Q,g,B,aq,S,O,u,M⟩:=hrel
  have G:pre.length≤n:=by
   obtain⟨f,_,h⟩:=M.out;have h1:=nY n xs;have U:0<(bu f y.xs).length:=by cases f<;>simp[bu]<;>split<;>simp
   rw[h,List.length_append,List.length_map]at h1;omega
  obtain⟨fn,a8,I,a0,hy,hR⟩:=HY.out pre y wr Q.out ⟨g.out,G⟩;clear G
  dsimp only[lz]at hy
  have HR:=hid hR;clear hR
  gi_wp2_with fail
  refine HR.mono ?_;rintro e W3 ⟨rfl,D,l⟩;have A:=hid D;have T:=hid (l.own g.own S.out).1;have z:=hid (l.fine O.out);have m:=hid (And.intro (Nat.lt_of_lt_of_le u.out.1 l.size) (Nat.lt_of_lt_of_le u.out.2 l.size));clear D l hy
  by_cases U:y.n<2
  ·have V:(y.n:Int)<2:=by omega
   have HE:=hid (show(pre++[y]).map cO.xs=bu n xs from by
    obtain⟨f,L,h⟩:=M.out;rw[h,List.map_append]
    congr 1
    cases f with
    |zero=>rfl
    |succ f=>rw[bu,if_pos (by rw[g.len];exact U)];rfl)
   gi_wp2_with fail
   rw[Exit.noGoto_normal];refine bodyPost_end (results_none rfl _ _ _) rfl ?_;exact⟨⟨_,rfl⟩,_,HE.out,A.out⟩
  ·have V:¬(y.n:Int)<2:=by omega
   gi_wp2_with (first
    |(refine⟨trivial, ?_⟩;gi_at_call 295;refine(callsIn_wide.2 (uN y.p y.n y.c y.xs _ T.out g.len B.out aq)).mono ?_;rintro e w5 ⟨⟨v,rfl,hv⟩,E⟩;have HV:=hid hv;have j:=hid E;obtain⟨pv,C,ad⟩:=aD hv;subst ad;clear hv E)
    |fail)
   go_roundw
   case rel=>
    have Y:=eT y.xs;have an:=g.len;have H:∀k,iJ a w5 k↔iJ a W3 k:=fun k=>tI (j.block a m.out.2)
    refine⟨pre++[y],⟨pv,(bz y.xs).length,C,bz y.xs⟩,rfl,hid (HJ.out _ _ _ none A.out (below_grown j.out) (fun r e=>by cases e)),hid ⟨ja HV.out,rfl⟩,hid (kR _ B.out),by show(bz y.xs).length≤_;omega,hid (fun k e=> ?_),hid (fun k s=>Nat.lt_of_lt_of_le (z.out k ((H k).1 s)) j.size),hid ⟨Nat.lt_of_lt_of_le m.out.1 j.size,Nat.lt_of_lt_of_le m.out.2 j.size⟩,hid ?_⟩
    ·have h1:=(HV.lt _ e).1
     have U:=m.out;exact⟨by omega,by omega,fun Z=>by have:=z.out k ((H k).1 Z);omega⟩
    ·obtain⟨f,L,h⟩:=M.out
     obtain⟨K,rfl⟩:∃K,f=K+1:=⟨f-1,by omega⟩;refine⟨K,by show(bz y.xs).length≤K;omega, ?_⟩;rw[h,bu,if_neg (by omega),List.map_append];simp
   case measure=>
    have Y:=eT y.xs;have an:=g.len
    show(bz y.xs).length<y.n
    omega
section
variable {P:Program} {o:Oper} {a:Act} {w:World} {K:Act→World→Prop} {Q:Exit→Act→World→Prop}
theorem lI (t e:TypeId) (c:Nat) (parts:Array (Nat×Operand)) (b:List Value) (z:Value) (d j:Nat)
  (hu:P.underlying t=some (.slice e)) (k:(P.info? e).map (fun i=>(i.zero,i.size,i.bytes))=some (some z,d,j)) (r:c*d≤16777216) (l:0<c*d)
  (q:o.op= .buildSlice t c parts)
  (p:Instr.fill (fun i=>some (i*d,d)) ((Array.range (c*d)).map (z.cells[· % z.cells.size]!)) (parts.map fun(i,x)=>(i,a.eval x)).toList=some b.toArray)
  (h:∀g f,w.heap.size≤g→ac f g b e→Below g w f→g<f.heap.size→K (a.put o.dst (.slice (some ⟨g,0,none⟩) c c)) f):o.wp P a w K Q:=by
 cases hie:P.info? e with
 |none=>simp[hie]at k
 |some ie=>
  simp only[hie,Option.map_some,Option.some.injEq,Prod.mk.injEq]at k;obtain⟨m,n,_⟩:=k;subst n;exact wp_buildSlice t e c parts q b.toArray ie z hu hie m (by omega) (by omega) p (h _ _ (Nat.le_refl _) (ac.new w b e) ((Below.refl _ _).alloc (Nat.le_refl _) _) (by simp))
end
theorem yi:∀(b:List (List ByteArray)) (i:Nat) (a:List ByteArray),(ci (i,a) b).1≤i
 |[],i,a=>Nat.le_refl _
 |l::b,i,a=>Nat.le_trans (yi b (i/2) _) (Nat.div_le_self _ _)
theorem u5:∀(b:List (List ByteArray)) (i:Nat) (a:List ByteArray),(ci (i,a) b).2.length≤a.length+b.length
 |[],i,a=>Nat.le_refl _
 |l::b,i,a=>by
  have h:=u5 b (i/2) (a++(l[i^^^1]?).toList);rw[List.length_append]at h;have c:(l[i^^^1]?).toList.length≤1:=by cases l[i^^^1]?<;>simp
  show(ci (i/2,a++(l[i^^^1]?).toList) b).2.length≤_
  rw[List.length_cons];omega
theorem DC (s:Nat×List ByteArray) (a:List (List ByteArray)) (l:List ByteArray):ci s (a++[l])=pM (ci s a) l:=by unfold ci;rw[List.foldl_append];rfl
theorem pQ:(prog.info? 9).map (fun i=>(i.zero,i.size,i.bytes))=some (some (.string ByteArray.empty),1,16):=by kernel_rfl
def Fh (w:World) (bi bo i:Nat) (pre:List cO) (W:World):Prop:=ac W bi [.int .i64 (((ci (i,[]) (pre.map cO.xs)).1:Nat):Int)] 3∧(∃v,Boxed W bo 66 v∧W.ownsRow w.heap.size 9 1 v (ci (i,[]) (pre.map cO.xs)).2.length ((ci (i,[]) (pre.map cO.xs)).2.map .string)∧True)∧Below w.heap.size w W
theorem mb {w W Wx:World} {c f i k2:Nat} {a:Value} {B:Value} {v v':Value} {n:Nat} {xs:List Value} {pre:List cO} {x:cO} {out':List ByteArray} (q:ac W c [a] 3) (g:ac W f [v] 66) (E:W.ownsRow w.heap.size 9 1 v n xs) (G:ai (c::f::v.ownBlock.toList) W Wx) (d:ac Wx c [B] 3) (j:ac Wx f [v'] 66)
  (l:Wx.ownsRow w.heap.size 9 1 v' out'.length (out'.map .string)) (H:Below w.heap.size w Wx) (hn:eI W v.ownBlock v'.ownBlock) (s:c≠f) (r:w.heap.size≤c) (F:ci (i,[]) ((pre++[x]).map cO.xs)=(k2,out')) {o:Act}:
  Aq (kY c f) (Fh w c f i) (pre++[x]) W Exit.normal o (Wx.setCell ⟨c,0,none⟩ (.int .i64 ((k2:Nat):Int))):=by
 have C:=d.set 0 (.int .i64 ((k2:Nat):Int));have t:=j.set_other (a:=⟨c,0,none⟩) (fun e=>s e.symm) (.int .i64 ((k2:Nat):Int));have u:=G.setCell (b:=c) (.inl (by simp)) 0 (.int .i64 ((k2:Nat):Int))
 have z:=aJ l ((ai.refl [c] Wx).setCell (b:=c) (.inl (by simp)) 0 (.int .i64 ((k2:Nat):Int))) (fun k m A=>by
  simp only[List.mem_singleton]at A;rw[A]at m;exact absurd (Boxed.not_row (show Boxed Wx c 3 _ from d) (by decide) l) (fun h=>h m.symm))
 have D:=H.setCell (p:=⟨c,0,none⟩) r (.int .i64 ((k2:Nat):Int));refine⟨AS u ?_,AQ g t u hn (fun k m=>(z.lt k m).2), ?_⟩
 ·intro y hy
  simp only[List.mem_cons,Option.mem_toList,Option.mem_def]at hy
  rcases hy with rfl|rfl|hy
  ·exact⟨_,q,rfl⟩
  ·exact⟨_,g,rfl⟩
  ·exact Ij E hy
 ·unfold Fh
  rw[F];exact⟨C,⟨v',t,z,trivial⟩,D⟩
theorem u6 (p:Option Addr) (n c:Nat) (xs:List ByteArray) (i:Nat) (w:World) (h:w.ownsRow 0 9 1 (.slice p n c) n (xs.map .string)) (hl:xs.length=n) (hs:∀x∈xs,x.size=32) (hn:n≤4096) (hi:i<n):
  Calls prog 215 #[.slice p n c, .int .i64 (i:Int)] w fun e w'=>(∃vo,e= .returned (.tuple #[vo, .int .i64 0])∧w'.ownsRow w.heap.size 9 1 vo (hO xs i).length ((hO xs i).map .string))∧Below w.heap.size w w':=by
 have HO:=hid h;have HL:=hid hl;have HS:=hid hs;have ec:=hid (fun k (N:(Value.slice p n c).ownBlock=some k)=>(h.lt k N).2);have dT:¬(i:Int)<0:=by omega
 have el:¬(n:Int)≤(i:Int):=by omega
 have eg:decide ((i:Int)<0)=false:=decide_eq_false dT;have ei:decide (n≤i)=false:=decide_eq_false (by omega);have HI:=hid hi;clear h hl hs hi;refine kH func215 rfl ?_;simp only[ntmps215,List.size_toArray,List.length_cons,List.length_nil,Nat.reduceAdd,Nat.reduceSub,Array.replicate_succ,Array.replicate_zero,List.push_toArray,List.append_toArray,List.nil_append,List.cons_append]
 go_wp2_with (first
  |((with_reducible refine aR 3 (.tmp 1) (.int .i64 (i:Int)) rfl (some 3) ?hgd ?ho ?hd ?hx ?_);(case hgd|ho|hd|hx=>rfl);(intro bi w1 l1 B1 e1 z1))
  |fail)
 have b1:=hid B1;have b4:=hid (e1.mono l1);have ea:=hid (own_below b4.out HO.out);have bt:=hid l1;clear B1 e1 l1 z1
 refine(jV p n c xs _ ea.out HL.out HS.out (by omega)).mono ?_
 rintro e w' ⟨rfl,rfl⟩;have c1:=b1.cell (i:=0) rfl;go_wp2_with fail;clear eg ei dT el c1;obtain⟨bo,R⟩:∃bo,bo=w1.heap.size:=⟨_,rfl⟩;obtain⟨w3,b7⟩:∃w3,w3=w1.alloc (Obj.cells #[.slice none 0 0] 66):=⟨_,rfl⟩;rw[←R,←b7];have db:ac w3 bo [.slice none 0 0] 66:=by rw[R,b7];exact ac.new w1 [.slice none 0 0] 66
 have cv:Below w1.heap.size w1 w3:=by rw[b7];exact(Below.refl _ _).alloc (Nat.le_refl _) _
 have cb:=hid (b1.below cv b1.lt);have ce:=hid db;have a4:=hid (show bi≠bo by have:=b1.lt;omega);have b2:=hid (show w.heap.size≤bo by rw[R];exact b4.size);have c4:=hid (b4.trans (cv.mono b4.size));clear R b7 db cv
 refine(nT p n c _).mono ?_
 rintro e wA ⟨bl,rfl,BL,lL,b5⟩;have d7:=hid BL;have cc:=hid (cb.below b5 cb.lt);have ah:=hid (ce.below b5 ce.lt);have cs:=hid (c4.trans (b5.mono c4.size));have eb:=hid (own_below cs.out HO.out);clear BL lL b5;go_wp2_with fail;have hA:w.heap.size≤wA.heap.size:=cs.size
 have cw:wL bo wA:=fun k ⟨x,hx,N⟩=>by
  rw[ah.cell (i:=0) rfl]at hx
  injection hx with hx
  subst hx
  cases N
 have ef:Apart bi bo wA (.slice p n c):=fun k N=>by
  have h1:=ec.out k N;have h2:=bt.out;have h3:=b2.out
  exact⟨by omega,by omega,fun⟨x,hx,hk2⟩=>by
   rw[ah.cell (i:=0) rfl]at hx
   injection hx with hx
   subst hx
   cases hk2⟩
 refine ly (enc:=lz) (H:=fun pre x W=>pG x W∧pre.length≤n) (Kp:=kY bi bo) (S:=fun ys=>ys.map cO.xs=bu n xs) rfl (enters_of func294 (by kernel_rfl) rfl)
  (y8 bl bi bo p n c xs wA d7.out eb.out HL.out HS.out (by omega) cc.lt ah.lt cw ef) Dz (fun W l o o' fb hl hc _=>Ii W l o o' hl hc (by have:=ah.lt;omega)) (fun x=>rfl)
  (Fh w bi bo i)
  (OwnFrom.and (Own.from (fun s A B d3 hs hg hr=>hs.iceless hg hr) _) (OwnFrom.and (Own.from (holdsRow_own w.heap.size bo 66 9 1 (fun(pre:List cO)=>(ci (i,[]) (pre.map cO.xs)).2.length) (fun(pre:List cO)=>(ci (i,[]) (pre.map cO.xs)).2.map .string) (fun _ _=>True)) _) (ownFrom_below (Nat.le_refl _) hA))) (fun pre=>fun s A B d3 hs hg hr=>⟨Ar _ s A B d3 hs.1 hg hr,hs.2⟩) ⟨cc.out,⟨_,ah.out,World.ownsRow_nil _ _ _ _,trivial⟩,cs.out⟩
  (fun x=>{tmps:=#[.slice p n c, .int .i64 (i:Int),undef, .pointer (some ⟨bi,0,none⟩), .slice none 0 0, .int .i64 0, .pointer (some ⟨bo,0,none⟩), .slice x.p x.n x.c,undef, .slice p n c, .bool true, .bool false, .bool false, .int .i64 (i:Int), .bool false, .bool false, .bool false, .int .i64 (i:Int), .slice p n c, .int .i64 (n:Int), .bool false, .bool false, .slice p n c, .func (.func 294) #[] #[.pointer (some ⟨bl,0,none⟩)], .slice x.p x.n x.c,undef,undef,undef,undef,undef,undef,undef,undef,undef,undef,undef,undef,undef,undef,undef,undef],defers:=[]}) ?assign ?body ?done
 case assign=>
  intro r x W K t
  dsimp only[lz]
  gi_wp2
  exact t
 case body=>
  rintro r pre x W ⟨a3,⟨v,R,M,_⟩,hB⟩ ⟨hx,e9⟩;obtain⟨k,N⟩:∃k,(ci (i,[]) (pre.map cO.xs)).1=k:=⟨_,rfl⟩;obtain⟨out,a9⟩:∃out,(ci (i,[]) (pre.map cO.xs)).2=out:=⟨_,rfl⟩;have e7:k≤i:=by rw[←N];exact yi _ _ _
  have bx:out.length≤n:=by
   have h1:=u5 (pre.map cO.xs) i [];rw[a9,List.length_map]at h1;simp at h1;omega
  rw[N]at a3;rw[a9]at M;obtain⟨q,m,d,ys⟩:=x;have d0:=hx.len;simp only at d0
  have a7:ci (i,[]) ((pre++[(⟨q,m,d,ys⟩:cO)]).map cO.xs)=(k/2,out++(ys[k^^^1]?).toList):=by
   rw[List.map_append,List.map_singleton,DC];unfold pM;rw[N,a9]
  have d2:bits .xor .i64 (k:Int) 1=((k^^^1:Nat):Int):=sK k 1 (by have:=HI.out;omega) (by omega);obtain⟨b,hb⟩:∃b,k^^^1=b:=⟨_,rfl⟩;rw[hb]at d2 a7;have b3:=hid a7
  have b6:wrap64 ((k:Int)/2)=((k/2:Nat):Int):=by
   have:=HI.out
   rw[IntWalk.wrap64_in _ (by omega)];omega
  have z4:=a3.cell (i:=0) rfl;have f4:=a3.free 0;clear N a9 a7
  by_cases dc:b<m
  ·have dg:(b:Int)<(m:Int):=by omega
   have ds:decide (b<m)=true:=decide_eq_true dc;obtain⟨y,hy⟩:∃y,ys[b]?=some y:=⟨_,List.getElem?_eq_getElem (by omega)⟩;obtain⟨g,cap,z,he,_,_,hG⟩:=bO hx.own (by show 0<m;omega);obtain⟨rfl,rfl⟩:q=some ⟨g,0,none⟩∧d=cap:=by injection he with h1 _ h2;exact⟨h1,h2⟩
   have dv:(ys.map Value.string++z)[b]?=some (.string y):=by rw[List.getElem?_append_left (by rw[List.length_map];omega),List.getElem?_map,hy];rfl
   have d8:=hid (hG.cell dv);have bm:=hid a3;have bn:=hid (show ac W bo [v] 66 from R);have a8:=hid M;have c2:=hid hB;have cu:=hid hy
   have d1:v.ownBlock≠some bi∧v.ownBlock≠some bo:=by
    constructor
    ·intro e
     exact absurd (Boxed.not_row (show Boxed W bi 3 _ from a3) (by decide) M) (fun h=>h e.symm)
    ·intro e
     exact absurd (Boxed.not_row R (by decide) M) (fun h=>h e.symm)
   have be:=hid d1;have bd:=hid bx;clear hx hG M hB hy dv he d1 bx
   gi_wp2_with fail
   refine wK (fun _=>True) trivial fun f=> ?_
   obtain⟨wd,b8⟩:∃wd,wd=W.drew:=⟨_,rfl⟩;have bk:Below W.heap.size W wd:=by rw[b8];exact(Below.refl _ _).drew
   have co:=hid (ai.of_below (S:=bi::bo::v.ownBlock.toList) bk (Nat.le_refl _));have T:=hid (bm.below bk bm.lt);have O:=hid (bn.below bk bn.lt);have cm:=hid (own_below bk a8.out);have V:=hid (c2.trans (bk.mono c2.size));have c3:=hid (show wd.cell? ⟨g,b,none⟩=some (.string y)from by rw[b8];exact d8.out);rw[←b8];clear b8 bk;obtain⟨i0,hi,cy,cz,cW⟩:=info_parts pQ;refine hp 1 ?_;refine hp 2 ?_;refine hp 3 ?_;refine hc2 0 4 (fun K t=> ?_) (fun K t=> ?_)
   ·have c6:=O.cell (i:=0) rfl
    go_simp;clear c6;refine t.out _ _ trivial fun _=> ?_
    clear t K f;rename_i f
    (try go_frame)
    refine hc 4 fun K t=> ?_
    have c6:=c3.out;go_simp;clear c6;refine t.out _ _ trivial fun _=> ?_
    clear t K f;rename_i f
    (try go_frame)
    refine hc 5 fun K t=> ?_
    refine lI 66 9 1 _ [.string y] (.string ByteArray.empty) 1 16 underlying66 pQ (by omega) (by omega) rfl (by kernel_rfl) ?_;intro g8 w8 l8 B8 e8 z8;have G:Below wd.heap.size wd w8:=e8.mono l8;have a1:=hid (co.trans (ai.of_below (S:=bi::bo::v.ownBlock.toList) G (Nat.le_refl _)));have bs:=hid B8;have Z:=hid (T.below G T.lt);have U:=hid (O.below G O.lt);have aq:=hid (own_below G cm.out);have I:=hid (V.trans (G.mono V.size));clear B8 e8 z8 G l8;refine t.out _ _ trivial fun _=> ?_
    clear t K f;rename_i f
    (try go_frame)
    refine hc 6 fun K t=> ?_
    refine dU _ _ 66 rfl i0 (.string ByteArray.empty) 16 underlying66 hi cy cz cW rfl (by decide) rfl aq.out ⟨g8,0,none⟩ 1 1 [.string y] rfl rfl (bJ bs.out) (by intro v hv;simp at hv;subst hv;rfl) (by have:=bd.out;unfold maxLen;omega) (by have:=bd.out;omega) I.size ?_;intro v' w9 L E F;have j:w8.grownBy w9 v.ownBlock:=E;have J:eI w8 v.ownBlock v'.ownBlock:=F;clear E F;obtain⟨X,Y,b0⟩:=aD L;subst b0;have ad:=hid (Z.grown j (fun e=>be.out.1 e.symm));have C:=hid (U.grown j (fun e=>be.out.2 e.symm));have aA:=hid L;have bv:=hid (J.back a1.size);have bw:=hid (a1.trans (ai.of_grown (S:=bi::bo::v.ownBlock.toList) j (fun k N=>by rw[N];simp)));have an:=hid (I.grown j I.size (fun k N=>(aq.lt k N).1));clear L j J;refine t.out _ _ trivial fun _=> ?_
    clear t K f;rename_i f
    (try go_frame)
    have c6:=C.cell (i:=0) rfl;have f6:=C.free 0;refine hc 7 fun K t=> ?_
    go_simp;have u:=hid (ad.set_other (a:=⟨bo,0,none⟩) a4.out (.slice X (out.length+1) Y));have P:=hid (C.set 0 (.slice X (out.length+1) Y));have a2:=hid (bw.setCell (b:=bo) (.inl (by simp)) 0 (.slice X (out.length+1) Y))
    have a0:=hid (aJ aA.out ((ai.refl [bo] w9).setCell (b:=bo) (.inl (by simp)) 0 (.slice X (out.length+1) Y)) (fun k N hm=>by
     simp only[List.mem_singleton]at hm;rw[hm]at N;exact absurd (Boxed.not_row (show Boxed w9 bo 66 v from C.out) (by decide) aA.out) (fun h=>h N.symm)))
    have Q:=hid (an.setCell (p:=⟨bo,0,none⟩) b2.out (.slice X (out.length+1) Y));clear c6 f6
    generalize w9.setCell ⟨bo,0,none⟩ (.slice X (out.length+1) Y)=wx at u P a2 a0 Q ⊢
    refine t.out _ _ trivial fun _=> ?_
    clear t K f;rename_i f
    (try go_frame)
    refine hd ?_;clear f;have z4:=u.cell (i:=0) rfl;have f4:=u.free 0
    gi_wp2_with fail
    (try rw[b6])
    exact mb (out':=out++[y]) bm.out bn.out a8.out a2.out u.out P.out (by simpa using a0.out) Q.out bv.out a4.out bt.out (by rw[b3.out,cu.out];simp)
   ·have c6:=c3.out
    go_simp;clear c6;refine t.out _ _ trivial fun _=> ?_
    clear t K f;rename_i f
    (try go_frame)
    refine hc2 0 5 (fun K t=> ?_) (fun K t=> ?_)
    ·have c6:=O.cell (i:=0) rfl
     go_simp;clear c6;refine t.out _ _ trivial fun _=> ?_
     clear t K f;rename_i f
     (try go_frame)
     refine hc 5 fun K t=> ?_
     refine lI 66 9 1 _ [.string y] (.string ByteArray.empty) 1 16 underlying66 pQ (by omega) (by omega) rfl (by kernel_rfl) ?_;intro g8 w8 l8 B8 e8 z8;have G:Below wd.heap.size wd w8:=e8.mono l8;have a1:=hid (co.trans (ai.of_below (S:=bi::bo::v.ownBlock.toList) G (Nat.le_refl _)));have bs:=hid B8;have Z:=hid (T.below G T.lt);have U:=hid (O.below G O.lt);have aq:=hid (own_below G cm.out);have I:=hid (V.trans (G.mono V.size));clear B8 e8 z8 G l8;refine t.out _ _ trivial fun _=> ?_
     clear t K f;rename_i f
     (try go_frame)
     refine hc 6 fun K t=> ?_
     refine dU _ _ 66 rfl i0 (.string ByteArray.empty) 16 underlying66 hi cy cz cW rfl (by decide) rfl aq.out ⟨g8,0,none⟩ 1 1 [.string y] rfl rfl (bJ bs.out) (by intro v hv;simp at hv;subst hv;rfl) (by have:=bd.out;unfold maxLen;omega) (by have:=bd.out;omega) I.size ?_;intro v' w9 L E F;have j:w8.grownBy w9 v.ownBlock:=E;have J:eI w8 v.ownBlock v'.ownBlock:=F;clear E F;obtain⟨X,Y,b0⟩:=aD L;subst b0;have ad:=hid (Z.grown j (fun e=>be.out.1 e.symm));have C:=hid (U.grown j (fun e=>be.out.2 e.symm));have aA:=hid L;have bv:=hid (J.back a1.size);have bw:=hid (a1.trans (ai.of_grown (S:=bi::bo::v.ownBlock.toList) j (fun k N=>by rw[N];simp)));have an:=hid (I.grown j I.size (fun k N=>(aq.lt k N).1));clear L j J;refine t.out _ _ trivial fun _=> ?_
     clear t K f;rename_i f
     (try go_frame)
     have c6:=C.cell (i:=0) rfl;have f6:=C.free 0;refine hc 7 fun K t=> ?_
     go_simp;have u:=hid (ad.set_other (a:=⟨bo,0,none⟩) a4.out (.slice X (out.length+1) Y));have P:=hid (C.set 0 (.slice X (out.length+1) Y));have a2:=hid (bw.setCell (b:=bo) (.inl (by simp)) 0 (.slice X (out.length+1) Y))
     have a0:=hid (aJ aA.out ((ai.refl [bo] w9).setCell (b:=bo) (.inl (by simp)) 0 (.slice X (out.length+1) Y)) (fun k N hm=>by
      simp only[List.mem_singleton]at hm;rw[hm]at N;exact absurd (Boxed.not_row (show Boxed w9 bo 66 v from C.out) (by decide) aA.out) (fun h=>h N.symm)))
     have Q:=hid (an.setCell (p:=⟨bo,0,none⟩) b2.out (.slice X (out.length+1) Y));clear c6 f6
     generalize w9.setCell ⟨bo,0,none⟩ (.slice X (out.length+1) Y)=wx at u P a2 a0 Q ⊢
     refine t.out _ _ trivial fun _=> ?_
     clear t K f;rename_i f
     (try go_frame)
     refine hd ?_;clear f;have z4:=u.cell (i:=0) rfl;have f4:=u.free 0
     gi_wp2_with fail
     (try rw[b6])
     exact mb (out':=out++[y]) bm.out bn.out a8.out a2.out u.out P.out (by simpa using a0.out) Q.out bv.out a4.out bt.out (by rw[b3.out,cu.out];simp)
    ·refine lI 66 9 1 _ [.string y] (.string ByteArray.empty) 1 16 underlying66 pQ (by omega) (by omega) rfl (by kernel_rfl) ?_
     intro g8 w8 l8 B8 e8 z8;have G:Below wd.heap.size wd w8:=e8.mono l8;have a1:=hid (co.trans (ai.of_below (S:=bi::bo::v.ownBlock.toList) G (Nat.le_refl _)));have bs:=hid B8;have Z:=hid (T.below G T.lt);have U:=hid (O.below G O.lt);have aq:=hid (own_below G cm.out);have I:=hid (V.trans (G.mono V.size));clear B8 e8 z8 G l8;refine t.out _ _ trivial fun _=> ?_
     clear t K f;rename_i f
     (try go_frame)
     refine hc 0 fun K t=> ?_
     have c6:=U.cell (i:=0) rfl;go_simp;clear c6;refine t.out _ _ trivial fun _=> ?_
     clear t K f;rename_i f
     (try go_frame)
     refine hc 6 fun K t=> ?_
     refine dU _ _ 66 rfl i0 (.string ByteArray.empty) 16 underlying66 hi cy cz cW rfl (by decide) rfl aq.out ⟨g8,0,none⟩ 1 1 [.string y] rfl rfl (bJ bs.out) (by intro v hv;simp at hv;subst hv;rfl) (by have:=bd.out;unfold maxLen;omega) (by have:=bd.out;omega) I.size ?_;intro v' w9 L E F;have j:w8.grownBy w9 v.ownBlock:=E;have J:eI w8 v.ownBlock v'.ownBlock:=F;clear E F;obtain⟨X,Y,b0⟩:=aD L;subst b0;have ad:=hid (Z.grown j (fun e=>be.out.1 e.symm));have C:=hid (U.grown j (fun e=>be.out.2 e.symm));have aA:=hid L;have bv:=hid (J.back a1.size);have bw:=hid (a1.trans (ai.of_grown (S:=bi::bo::v.ownBlock.toList) j (fun k N=>by rw[N];simp)));have an:=hid (I.grown j I.size (fun k N=>(aq.lt k N).1));clear L j J;refine t.out _ _ trivial fun _=> ?_
     clear t K f;rename_i f
     (try go_frame)
     have c6:=C.cell (i:=0) rfl;have f6:=C.free 0;refine hc 7 fun K t=> ?_
     go_simp;have u:=hid (ad.set_other (a:=⟨bo,0,none⟩) a4.out (.slice X (out.length+1) Y));have P:=hid (C.set 0 (.slice X (out.length+1) Y));have a2:=hid (bw.setCell (b:=bo) (.inl (by simp)) 0 (.slice X (out.length+1) Y))
     have a0:=hid (aJ aA.out ((ai.refl [bo] w9).setCell (b:=bo) (.inl (by simp)) 0 (.slice X (out.length+1) Y)) (fun k N hm=>by
      simp only[List.mem_singleton]at hm;rw[hm]at N;exact absurd (Boxed.not_row (show Boxed w9 bo 66 v from C.out) (by decide) aA.out) (fun h=>h N.symm)))
     have Q:=hid (an.setCell (p:=⟨bo,0,none⟩) b2.out (.slice X (out.length+1) Y));clear c6 f6
     generalize w9.setCell ⟨bo,0,none⟩ (.slice X (out.length+1) Y)=wx at u P a2 a0 Q ⊢
     refine t.out _ _ trivial fun _=> ?_
     clear t K f;rename_i f
     (try go_frame)
     refine hd ?_;clear f;have z4:=u.cell (i:=0) rfl;have f4:=u.free 0
     gi_wp2_with fail
     (try rw[b6])
     exact mb (out':=out++[y]) bm.out bn.out a8.out a2.out u.out P.out (by simpa using a0.out) Q.out bv.out a4.out bt.out (by rw[b3.out,cu.out];simp)
  ·have dg:¬(b:Int)<(m:Int):=by omega
   have ds:decide (b<m)=false:=decide_eq_false dc;have en:ys[b]?=none:=List.getElem?_eq_none (by omega)
   gi_wp2_with fail
   (try rw[b6])
   exact mb (k2:=k/2) (W:=W) (Wx:=W) (v':=v) (out':=out) a3 (show ac W bo [v] 66 from R) M (ai.refl _ _) a3 R M hB (.inl rfl) a4.out bt.out (pre:=pre) (x:=⟨q,m,d,ys⟩) (i:=i) (by rw[b3.out,en];simp)
 case done=>
  rintro D ys W hD hS ⟨a3,⟨v,R,M,_⟩,hB⟩ t;have z4:=R.cell;go_wp2_with fail;refine⟨by simp, .inl ⟨_,_,rfl,run_takeDeferred t, ?_⟩⟩;refine⟨.tuple #[v, .int .i64 0], ?_,⟨⟨v,rfl, ?_⟩, ?_⟩⟩
  ·simp[results,f215,go_sem]
  ·rw[hS]at M
   have:=ownsRow_putObj M (.deferred none) t rfl
   unfold hO;rw[HL.out];exact this
  ·exact hB.trans (belowK_b (w:=w) (Nat.le_refl _) W D _ _ (by omega) t rfl rfl)
end Go.Proofs.YtadooplpfhdhcaaGreat
