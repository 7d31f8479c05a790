/- An index (chapter 14): a place's newest version, or that there is none; how many places; an epoch's versions. ReadAt and Read (chapter 26), however they end. -/
import Derived.Test.YtadooplpfhdhcaaGreatQ21
import Derived.Test.YtadooplpfhdhcaaGreatQ27
import Derived.Test.YtadooplpfhdhcaaGreatQ20
set_option linter.unusedSimpArgs false
set_option linter.unusedVariables false
set_option maxRecDepth 100000
set_option maxHeartbeats 4000000
namespace Go.Proofs.YtadooplpfhdhcaaGreat
open Go Go.RowKit
open Go.Lib (hid)
open Go.Proofs.Tryz
theorem vh (b c:Nat) (w:World):
  Calls prog 247 #[.slice none 0 0, .int .i64 0, .func (.func 248) #[] #[.pointer (some ⟨b,0,none⟩), .pointer (some ⟨c,0,none⟩)]] w fun e w'=>e= .returned (.tuple #[.int .i64 0, .bool false])∧Below w.heap.size w w':=by
 go_enter func247,ntmps247;go_wp2_with fail;go_loopw [9,10] (fun d a wr=>d= .int .i64 0∧a= .int .i64 0∧wr=w) (fun _ _ _=>0)
 case atStart=>exact⟨rfl,rfl,rfl⟩
 case round=>
  obtain⟨rfl,rfl,rfl⟩:=hrel;go_wp2_with fail;go_ret2;exact⟨rfl,Below.refl _ _⟩
theorem qj (n:Nat) (xv:Value) (l:List ag) (lba c:Int) (k m:Nat) (w:World) (h:w.ownsRow 0 130 3 xv n (ar l)) (hn:l.length=n) (hb:n≤1048576) (q:ac w k [.int .i64 lba] 3) (r:ac w m [.int .i64 c] 3) (d:∀(i j:Nat) (a b:ag),l[i]?=some a→l[j]?=some b→i≤j→dL lba c b→dL lba c a):
  Calls prog 247 #[xv, .int .i64 0, .func (.func 248) #[] #[.pointer (some ⟨k,0,none⟩), .pointer (some ⟨m,0,none⟩)]] w fun e w'=>(∃i:Nat,e= .returned (.tuple #[.int .i64 (i:Int), .bool false])∧fp l lba c i)∧Below w.heap.size w w':=by
 by_cases u:0<n
 ·obtain⟨g,f,z,rfl,hc,v,y⟩:=ba h u
  exact ln g f n k m lba c l z w y hn hb q r d
 ·obtain rfl:n=0:=by omega
  have hl:l=[]:=List.eq_nil_of_length_eq_zero hn;subst hl
  rcases h.2 with⟨rfl,_⟩|⟨g,f,cur,rfl,_,_,_⟩
  ·exact(vh k m w).mono fun e w' s=>⟨⟨0,s.1,⟨Nat.le_refl _,fun t x p=>by simp at p,fun t x p=>by simp at p⟩⟩,s.2⟩
  ·obtain⟨z,o⟩:∃(z:List Value),ac w g (ar []++z) 130:=⟨cur.toList,by simp[ar,ac];assumption⟩
   exact ln g f 0 k m lba c [] z w o rfl hb q r d
theorem vj (T n:Nat) (xv:Value) (l:List ag) (lba d:Int) (w:World) (R:ac w T [.bool true,xv] 238) (I:w.ownsRow 0 130 3 xv n (ar l)) (hl:l.length=n) (hn:n≤4096) (g:∀(i j:Nat) (a b:ag),l[i]?=some a→l[j]?=some b→i≤j→dL lba d b→dL lba d a) (S:fp l lba d 0):
  Calls prog 180 #[.pointer (some ⟨T,0,none⟩), .int .i64 lba, .int .i64 d] w fun e w'=>e= .returned (.tuple #[.agg (ag.cells ⟨0,0,0⟩).toArray, .bool false])∧Below w.heap.size w w':=by
 have G:=hid (fun(q:World) (z A:Nat) (h:q.ownsRow 0 130 3 xv n (ar l)) (Y:ac q z [.int .i64 lba] 3) (Z:ac q A [.int .i64 d] 3)=>show Calls prog 247 #[xv, .int .i64 0, .func (.func 248) #[] #[.pointer (some ⟨z,0,none⟩), .pointer (some ⟨A,0,none⟩)]] q fun e w'=>e= .returned (.tuple #[.int .i64 0, .bool false])∧Below q.heap.size q w' from(qj n xv l lba d z A q h hl (by omega) Y Z g).mono fun e w' hh=>by
  obtain⟨⟨i,he,hi⟩,hb⟩:=hh;obtain rfl:i=0:=hi.uniq S;exact⟨he,hb⟩)
 have r:=hid R;have V:=hid I;obtain⟨p,c,rfl⟩:=az I;clear R I hl hn g S;have aA:∀(Q:Fn) (first B:Array Value) (w:World),(Instr.makeFunc Q first B).run prog w= .ok (.func Q first B) w:=fun _ _ _ _=>rfl
 go_enter func180,ntmps180
 go_wp2_with (first
  |((with_reducible refine aO 3 (.tmp 1) (.int .i64 lba) rfl (some 4) ?hgd ?ho ?hd ?hx ?_);(case hgd|ho|hd|hx=>rfl);(intro z w4 J K C z4))
  |((with_reducible refine aO 3 (.tmp 2) (.int .i64 d) rfl (some 5) ?hgd ?ho ?hd ?hx ?_);(case hgd|ho|hd|hx=>rfl);(intro A w5 l5 L D z5))
  |((with_reducible refine ab 130 _ cE (some 6) ?hgd ?ho ?hd ?_);(case hgd|ho|hd=>rfl);(intro O w6 l6 M E z6;have P:=(((r.out.below (C.mono J) r.out.lt).below D (by have:=r.out.lt;have:=C.size;omega)).below E (by have:=r.out.lt;have:=C.size;have:=D.size;omega)).cell (i:=1) rfl))
  |fail)
 have k:Below w.heap.size w w6:=((C.mono J).trans (D.mono (by omega))).trans (E.mono (by omega));have o:=hid ((K.below D (by omega)).below E (by omega));have F:=hid (L.below E (by omega));have s:=hid M;have H:=hid (show w.heap.size≤O from by omega);have m:=hid k;have x:=hid (own_below k V.out);have y:=hid (r.below k r.lt);clear K L M C D E J l5 l6 z4 z5 z6 k
 refine(G.out _ z A x.out o.out F.out).mono ?_
 rintro e w7 ⟨rfl,f⟩;have W:=hid (own_below f x.out);have X:=hid (y.below f y.lt);have N:=hid (o.below f o.lt);have t:=hid (s.below f s.lt);have v:=hid (m.trans (f.mono m.size));clear f P;go_upto_region 2 with fail;go_region
 (try clear P q4 qx)
 have u:=hid t.drew
 go_wp2_with (first
  |((with_reducible refine aa 130 (.tmp 6) (.tmp 34) O (ag.cells ⟨0,0,0⟩) (ag.cells ⟨0,0,0⟩) 130 u.out rfl aM (bV _) ?hgd ?ho ?hx ?hy ?_);(case hgd|ho|hx|hy=>rfl);(intro w9 U o9))
  |fail)
 (try simp only[Exit.inBlock,Exit.then]);refine bodyPost_ret (aU rfl _ _ U.range rfl underlying130 rfl aM) rfl ⟨rfl,o9.below v.drew H.out⟩
theorem vm (xb n k:Nat) (xv:Value) (l:List ag) (lba c:Int) (x:ag) (w:World) (hX:ac w xb [.bool true,xv] 238) (S:w.ownsRow 0 130 3 xv n (ar l)) (hl:l.length=n) (hn:n≤4096) (f:∀(i j:Nat) (a b:ag),l[i]?=some a→l[j]?=some b→i≤j→dL lba c b→dL lba c a) (hm:fp l lba c (k+1)) (U:l[k]?=some x) (W:¬x.lba=lba):
  Calls prog 180 #[.pointer (some ⟨xb,0,none⟩), .int .i64 lba, .int .i64 c] w fun e w'=>e= .returned (.tuple #[.agg (ag.cells ⟨0,0,0⟩).toArray, .bool false])∧Below w.heap.size w w':=by
 have V:k<n:=by rw[←hl];exact(List.getElem?_eq_some_iff.1 U).1
 have N:=hid (fun(K:World) (I J:Nat) (h:K.ownsRow 0 130 3 xv n (ar l)) (h4:ac K I [.int .i64 lba] 3) (h5:ac K J [.int .i64 c] 3)=>qj n xv l lba c I J K h hl (by omega) h4 h5 f);obtain⟨g,s,z,rfl,a2,T,hG⟩:=ba S (by omega);obtain⟨m,H⟩:∃m:Nat,m=k+1:=⟨_,rfl⟩;have bo:(m:Int)-1=(k:Int):=by omega
 have bm:((m:Int)==0)=false:=beq_eq_false_iff_ne.2 (by omega);have a3:(k:Int)<(n:Int):=by omega
 have bs:IntKind.i64.wrap ((m:Int)-1)=(k:Int):=by rw[IntWalk.i64_in _ (by omega)];omega
 have a5:IntKind.i64.wrap (k:Int)=(k:Int):=IntWalk.i64_in _ (by omega);have bl:((k:Int)).toNat=k:=Int.toNat_natCast k;have bk:(0:Int)≤(k:Int):=by omega
 have bt:(x.lba==lba)=false:=beq_eq_false_iff_ne.2 W;have t:=hid hX;have HR:=hid S;have HG:=hid hG;have HK:=hid U;have L:=hid (show fp l lba c m from by rw[H];exact hm);clear hX S hl hn f hm U V hG H T;have bn:∀(fn:Fn) (first s:Array Value) (w:World),(Instr.makeFunc fn first s).run prog w= .ok (.func fn first s) w:=fun _ _ _ _=>rfl
 go_enter func180,ntmps180
 go_wp2_with (first
  |((with_reducible refine aO 3 (.tmp 1) (.int .i64 lba) rfl (some 4) ?hgd ?ho ?hd ?hx ?_);(case hgd|ho|hd|hx=>rfl);(intro I w4 X Y D z4))
  |((with_reducible refine aO 3 (.tmp 2) (.int .i64 c) rfl (some 5) ?hgd ?ho ?hd ?hx ?_);(case hgd|ho|hd|hx=>rfl);(intro J w5 l5 Z E z5))
  |((with_reducible refine ab 130 _ cE (some 6) ?hgd ?ho ?hd ?_);(case hgd|ho|hd=>rfl);(intro b6 w6 l6 B6 F z6;have R:=(((t.out.below (D.mono X) t.out.lt).below E (by have:=t.out.lt;have:=D.size;omega)).below F (by have:=t.out.lt;have:=D.size;have:=E.size;omega)).cell (i:=1) rfl))
  |fail)
 have o:Below w.heap.size w w6:=((D.mono X).trans (E.mono (by omega))).trans (F.mono (by omega));have r:=hid ((Y.below E (by omega)).below F (by omega));have M:=hid (Z.below F (by omega));have v:=hid B6;have P:=hid (show w.heap.size≤b6 from by omega);have p:=hid o;have B:=hid (own_below o HR.out);have C:=hid (t.below o t.lt);clear Y Z B6 D E F X l5 l6 z4 z5 z6 o
 refine(N.out _ I J B.out r.out M.out).mono ?_
 rintro e w7 ⟨⟨m',rfl,G⟩,d⟩;obtain rfl:m=m':=L.uniq G;clear G;have bb:=hid (own_below d B.out);have Q:=hid (C.below d C.lt);have u:=hid (r.below d r.lt);have y:=hid (v.below d v.lt);have q:=hid (p.trans (d.mono p.size));clear d R;go_upto_region 2 with fail;have O:=hid (HG.below q.out HG.lt);have R:=Q.drew.cell (i:=1) rfl;have q4:=u.drew.cell (i:=0) rfl;have qx:w7.drew.cell? ⟨g,k*3,none⟩=some (.int .i64 x.lba):=ed O.drew HK.out 0 _ rfl;refine aB (by kernel_rfl) (by kernel_rfl) ?_
 repeat still_step
 refine wpStill_nil ?_
 (try clear R q4 qx)
 have A:=hid y.drew
 go_wp2_with (first
  |((with_reducible refine aa 130 (.tmp 6) (.tmp 34) b6 (ag.cells ⟨0,0,0⟩) (ag.cells ⟨0,0,0⟩) 130 A.out rfl aM (bV _) ?hgd ?ho ?hx ?hy ?_);(case hgd|ho|hx|hy=>rfl);(intro w9 B9 o9))
  |fail)
 (try simp only[Exit.inBlock,Exit.then]);refine bodyPost_ret (aU rfl _ _ B9.range rfl underlying130 rfl aM) rfl ⟨rfl,o9.below q.drew P.out⟩
def cj (l:List ag) (lba:Int) (m:Nat):Option ag:=if m=0 then none else(l[m-1]?).bind fun x=>if x.lba=lba then some x else none
def iM (q:Option ag):ag:=q.getD ⟨0,0,0⟩
theorem wO (lba c:Int):∀(l:List ag),(∀(i j:Nat) (a b:ag),l[i]?=some a→l[j]?=some b→i≤j→dL lba c b→dL lba c a)→∃m,fp l lba c m
 |[],_=>⟨0,Nat.le_refl _,fun t x d=>by simp at d,fun t x d=>by simp at d⟩
 |a::r,h=>by
  obtain⟨m,g⟩:=wO lba c r (fun i j x y d hy n e=>h (i+1) (j+1) x y (by simpa using d) (by simpa using hy) (by omega) e)
  by_cases k:dL lba c a
  ·refine⟨m+1,by simpa using g.le,fun t x d f=> ?_,fun t x d f=> ?_⟩
   ·cases t with
    |zero=>simp at d;subst d;exact k
    |succ t=>exact g.ahead t x (by simpa using d) (by omega)
   ·cases t with
    |zero=>omega
    |succ t=>exact g.behind t x (by simpa using d) (by omega)
  ·exact⟨0,Nat.zero_le _,fun t x d f=>absurd f (Nat.not_lt_zero _),fun t x d f e=>k (h 0 t a x rfl d f e)⟩
theorem zw (g n m:Nat) (xv:Value) (l:List ag) (lba c:Int) (w:World) (p:ac w g [.bool true,xv] 238) (o:w.ownsRow 0 130 3 xv n (ar l)) (hl:l.length=n) (hn:n≤4096) (d:∀(i j:Nat) (a b:ag),l[i]?=some a→l[j]?=some b→i≤j→dL lba c b→dL lba c a) (h:fp l lba c m):
  Calls prog 180 #[.pointer (some ⟨g,0,none⟩), .int .i64 lba, .int .i64 c] w fun e w'=>e= .returned (.tuple #[.agg (iM (cj l lba m)).cells.toArray, .bool (cj l lba m).isSome])∧Below w.heap.size w w':=by
 cases m with
 |zero=>exact vj g n xv l lba c w p o hl hn d h
 |succ k=>
  obtain⟨x,q⟩:∃x,l[k]?=some x:=⟨_,List.getElem?_eq_getElem (by have:=h.le;omega)⟩;have e:cj l lba (k+1)=if x.lba=lba then some x else none:=by simp[cj,q]
  rw[e]
  by_cases f:x.lba=lba
  ·rw[if_pos f];exact vZ g n xv l lba c x w p o hl (by omega) ⟨⟨k,h,q⟩,f,d⟩
  ·rw[if_neg f];exact vm g n k xv l lba c x w p o hl hn d h q f
theorem vq (r n m:Nat) (xv:Value) (l:List ag) (lba c:Int) (w:World) (t:ac w r [.bool true,xv] 238) (s:w.ownsRow 0 130 3 xv n (ar l)) (hl:l.length=n) (hn:n≤4096) (f:∀(i j:Nat) (a b:ag),l[i]?=some a→l[j]?=some b→i≤j→dL lba c b→dL lba c a) (F:fp l lba c m):
  Calls prog 88 #[.pointer (some ⟨r,0,none⟩), .int .i64 lba, .int .i64 c] w fun e w'=>e= .returned (.tuple #[.agg (iM (cj l lba m)).cells.toArray, .bool (cj l lba m).isSome])∧Below w.heap.size w w':=by
 obtain⟨x,hx⟩:∃x,iM (cj l lba m)=x:=⟨_,rfl⟩;obtain⟨q,z⟩:∃q,(cj l lba m).isSome=q:=⟨_,rfl⟩;have o:=hid (fun(B:World) (t:ac B r [.bool true,xv] 238) (s:B.ownsRow 0 130 3 xv n (ar l))=>zw r n m xv l lba c B t s hl hn f F);rw[hx,z]at o;rw[hx,z];have D:=hid t;have H:=hid s;clear t s hl hn f F hx z;go_enter func88,ntmps88
 go_wp2_with (first
  |((with_reducible refine ab 130 _ cE (some 6) ?hgd ?ho ?hd ?_);(case hgd|ho|hd=>rfl);(intro I L A C E K))
  |fail)
 have h:=hid C;have v:=hid A;have d:=hid (E.mono A);have p:=hid (D.below d.out D.lt);have y:=hid (own_below d.out H.out);clear C E K A
 refine(jp r _ _ p.out).mono ?_
 rintro e w' ⟨rfl,rfl⟩;go_wp2_with fail
 refine(o.out _ p.out y.out).mono ?_
 rintro e M ⟨rfl,g⟩;have u:=hid (h.below g h.lt);have k:=hid (d.trans (g.mono d.size));clear g
 go_wp2_with (first
  |((with_reducible refine aa 130 (.tmp 6) (.tmp 16) I (ag.cells ⟨0,0,0⟩) x.cells 130 u.out rfl aM (bV _) ?hgd ?ho ?hx ?hy ?_);(case hgd|ho|hx|hy=>rfl);(intro N G J))
  |fail)
 (try simp only[Exit.inBlock,Exit.then]);refine bodyPost_ret (aU rfl _ _ G.range rfl underlying130 rfl aM) rfl ⟨rfl,J.below k.out v.out⟩
def j8 (q:Nat×Int) (x:ag):Nat×Int:=(if x.lba=q.2 then q.1 else q.1+1,x.lba)
def dn (l:List ag):Nat×Int:=l.foldl j8 (0,-1)
theorem qk {l:List ag} {k:Nat} {x:ag} (c:l[k]?=some x):dn (l.take (k+1))=j8 (dn (l.take k)) x:=by
 obtain⟨a,b⟩:=List.getElem?_eq_some_iff.1 c;unfold dn;rw[List.take_succ_eq_append_getElem a,List.foldl_append,b]
 rfl
theorem BC (H n:Nat) (xv:Value) (l:List ag) (w:World) (M:ac w H [.bool true,xv] 238) (L:w.ownsRow 0 130 3 xv n (ar l)) (hl:l.length=n) (hn:n≤4096):
  Calls prog 105 #[.pointer (some ⟨H,0,none⟩)] w fun e w'=>e= .returned (.int .i64 ((dn l).1:Int))∧Below w.heap.size w w':=by
 have S:=hid M;have R:=hid L;have J:=hid hl;have K:=hid hn;clear M L hl hn;go_enter func105,ntmps105;go_wp2_with fail
 refine(pT H n xv l _ S.out R.out K.out).mono ?_
 rintro e O ⟨⟨va,rfl,D⟩,r⟩;obtain⟨pa,Z,rfl⟩:=az D;have P:=hid D;have h:=hid r;clear D r;go_wp2_with fail;go_loopw [3,4,10] (fun a b i wr=>∃k:Nat,k≤n∧i= .int .i64 k∧(∃q:Nat,a= .int .i64 (q:Int)∧q≤k∧Hid ((dn (l.take k)).1=q))∧(∃z:Int,b= .int .i64 z∧Hid ((dn (l.take k)).2=z))∧Hid (Below O.heap.size O wr)) (fun _ _ i _=>n-(intOf i).toNat)
 case atStart=>exact⟨0,Nat.zero_le _,rfl,⟨0,rfl,Nat.le_refl _,hid rfl⟩,⟨-1,rfl,hid rfl⟩,hid (Below.refl _ _)⟩
 case round=>
  obtain⟨k,hk,rfl,⟨q,rfl,V,t⟩,⟨I,rfl,A⟩,c⟩:=hrel;have hn:=K.out
  by_cases U:k<n
  ·have N:(k:Int)<(n:Int):=by omega
   obtain⟨g,T,z,E,_,_,C⟩:=ba P.out (by omega)
   injection E with E hnn hcc
   subst E hcc;clear hnn;have Q:=hid (C.below c.out C.lt);obtain⟨x,hx⟩:∃x,l[k]?=some x:=⟨_,List.getElem?_eq_getElem (by have:=J.out;omega)⟩;have o:=hid hx;have j:=hid (ed Q.out o.out);clear C hx;have bA:=qk o.out
   by_cases d:x.lba=I
   ·have m:=hid (show dn (l.take (k+1))=(q,x.lba)from by rw[bA];unfold j8;rw[A.out,t.out,if_pos d])
    have F:(x.lba==I)=true:=beq_iff_eq.2 d;clear bA
    go_wp2_with (first
     |((with_reducible refine ao 130 (.tmp 12) g (k*3) x.cells _ (some 13) j.out underlying130 rfl aM ?hg ?ho ?hds ?hx ?_);(case ho|hg|hds|hx=>rfl))
     |((with_reducible refine ab 130 _ cE (some 6) ?hgd ?ho ?hd ?_);(case hgd|ho|hd=>rfl);(intro p W s u B Y))
     |((with_reducible refine aa 130 (.tmp 6) (.tmp 13) p (ag.cells ⟨0,0,0⟩) x.cells 130 u rfl aM (bV _) ?hgd ?ho ?hx ?hy ?_);(case hgd|ho|hx|hy=>rfl);(intro w6 v G;have X:w6.cell? ⟨p,0,none⟩=some (.int .i64 x.lba):=v.cell (i:=0) rfl))
     |fail)
    have f:Below wr.heap.size wr w6:=G.below (B.mono s) s;go_roundw
    case rel=>exact⟨k+1,by omega,by go_num,⟨q,rfl,by omega,hid (by rw[m.out])⟩,⟨x.lba,(by first|rfl|rw[d]),hid (by rw[m.out])⟩,hid (c.trans (f.mono c.size))⟩
    case measure=>simp[intOf];omega
   ·have m:=hid (show dn (l.take (k+1))=(q+1,x.lba)from by rw[bA];unfold j8;rw[A.out,t.out,if_neg d])
    have F:(x.lba==I)=false:=beq_eq_false_iff_ne.2 d;clear bA
    go_wp2_with (first
     |((with_reducible refine ao 130 (.tmp 12) g (k*3) x.cells _ (some 13) j.out underlying130 rfl aM ?hg ?ho ?hds ?hx ?_);(case ho|hg|hds|hx=>rfl))
     |((with_reducible refine ab 130 _ cE (some 6) ?hgd ?ho ?hd ?_);(case hgd|ho|hd=>rfl);(intro p W s u B Y))
     |((with_reducible refine aa 130 (.tmp 6) (.tmp 13) p (ag.cells ⟨0,0,0⟩) x.cells 130 u rfl aM (bV _) ?hgd ?ho ?hx ?hy ?_);(case hgd|ho|hx|hy=>rfl);(intro w6 v G;have X:w6.cell? ⟨p,0,none⟩=some (.int .i64 x.lba):=v.cell (i:=0) rfl))
     |fail)
    have f:Below wr.heap.size wr w6:=G.below (B.mono s) s;go_roundw
    case rel=>exact⟨k+1,by omega,by go_num,⟨q+1,by go_num,by omega,hid (by rw[m.out])⟩,⟨x.lba,rfl,hid (by rw[m.out])⟩,hid (c.trans (f.mono c.size))⟩
    case measure=>simp[intOf];omega
  ·obtain rfl:k=n:=by omega
   have y:=hid (show(dn l).1=q from by have:=t.out;rw[List.take_of_length_le (by rw[J.out];exact Nat.le_refl _)]at this;exact this);clear t A;go_wp2_with fail;go_ret;exact⟨by rw[y.out];rfl,h.trans (c.mono h.size)⟩
def du (ep:Int) (out:List ag) (x:ag):List ag:=if x.epoch=ep then(match out.getLast? with|some y=>if y.lba=x.lba then out.dropLast++[x]else out++[x]|none=>[x])else out
def bH (l:List ag) (ep:Int):List ag:=l.foldl (du ep) []
theorem nF {l:List ag} {ep:Int} {k:Nat} {x:ag} (c:l[k]?=some x):bH (l.take (k+1)) ep=du ep (bH (l.take k) ep) x:=by
 obtain⟨a,b⟩:=List.getElem?_eq_some_iff.1 c;unfold bH;rw[List.take_succ_eq_append_getElem a,List.foldl_append,b]
 rfl
theorem zx (ep:Int) (a:List ag) (x:ag):(du ep a x).length≤a.length+1:=by
 unfold du
 split
 ·split
  ·split<;>simp
  ·simp
 ·omega
theorem ql (l:List ag) (ep:Int):(bH l ep).length≤l.length:=by
 have h:∀(l q:List ag),(l.foldl (du ep) q).length≤q.length+l.length:=by
  intro l
  induction l with
  |nil=>intro q;exact Nat.le_refl _
  |cons a r ih=>
   intro q;refine Nat.le_trans (ih _) ?_
   have:=zx ep q a
   simp only[List.length_cons];omega
 have:=h l []
 simpa[bH]using this
theorem DW (xb n:Nat) (xv:Value) (l:List ag) (ep:Int) (w:World) (hX:ac w xb [.bool true,xv] 238) (hR:w.ownsRow 0 130 3 xv n (ar l)) (hl:l.length=n) (hn:n≤4096):
  Calls prog 133 #[.pointer (some ⟨xb,0,none⟩), .int .i64 ep] w fun e w'=>(∃vo,e= .returned vo∧w'.ownsRow w.heap.size 130 3 vo (bH l ep).length (ar (bH l ep)))∧Below w.heap.size w w':=by
 obtain⟨i0,hi,bd,be,bk⟩:=info_parts j6;have HX:=hid hX;have HR:=hid hR;have HL:=hid hl;have HN:=hid hn;clear hX hR hl hn;go_enter func133,ntmps133;go_wp2_with fail
 refine(pT xb n xv l _ HX.out HR.out HN.out).mono ?_
 rintro e P ⟨⟨va,rfl,ha⟩,a5⟩;obtain⟨pa,ca,rfl⟩:=az ha;have HA:=hid ha;have T:=hid a5;clear ha a5;go_wp2_with fail;go_loopw [5,12] (fun vo i wr=>∃k:Nat,k≤n∧i= .int .i64 k∧Hid (wr.ownsRow P.heap.size 130 3 vo (bH (l.take k) ep).length (ar (bH (l.take k) ep)))∧Hid (Below P.heap.size P wr)) (fun _ i _=>n-(intOf i).toNat)
 case atStart=>exact⟨0,Nat.zero_le _,rfl,hid (World.ownsRow_nil _ _ _ _),hid (Below.refl _ _)⟩
 case round=>
  obtain⟨k,hk,rfl,HO,c⟩:=hrel;have hn:=HN.out
  by_cases c7:k<n
  ·have cs:(k:Int)<(n:Int):=by omega
   obtain⟨g,c4,z,V,c6,_,hG⟩:=ba HA.out (by omega)
   injection V with V hnn hcc
   subst V hcc;clear hnn;have HG:=hid (hG.below c.out hG.lt);obtain⟨x,hx⟩:∃x,l[k]?=some x:=⟨_,List.getElem?_eq_getElem (by have:=HL.out;omega)⟩;have a0:=hid hx;have L:=hid (ed HG.out a0.out);have bA:=nF (ep:=ep) a0.out;obtain⟨Q,hQ⟩:∃Q,bH (l.take k) ep=Q:=⟨_,rfl⟩;obtain⟨m,hm⟩:∃m,Q.length=m:=⟨_,rfl⟩;have c9:m≤4096:=by have:=ql (l.take k) ep;rw[hQ,hm]at this;simp at this;omega
   have O:=HO.out;rw[hQ,hm]at O;rw[hQ]at bA;have B:=hid O;have o:=hid hm;obtain⟨po,co,rfl⟩:=az O;clear hG hx hQ hm O HO
   by_cases s:x.epoch=ep
   ·by_cases c8:0<m
    ·obtain⟨m1,rfl⟩:∃m1,m=m1+1:=⟨m-1,by omega⟩
     obtain⟨M,r,E,W,bb,R,c5,a6,a7,a8⟩:∃M r E,(Value.slice po (m1+1) co)= .slice (some ⟨M,0,none⟩) (m1+1) r∧P.heap.size≤M∧wr.heap[M]?=some (.cells E 130 (0,0))∧m1+1≤r∧r≤maxLen∧E.size=r*3∧E.toList.take ((m1+1)*3)=ar Q:=by
      rcases B.out.2 with⟨_,h0⟩|h0
      ·omega
      ·exact h0
     injection W with W hno hcc
     subst W hcc;clear hno;obtain⟨zo,X⟩:∃zo,E.toList=ar Q++zo:=⟨_,by rw[←a8];exact(List.take_append_drop _ _).symm⟩;have a4:ac wr M (ar Q++zo) 130:=by unfold ac;rw[←X];simpa using R
     have a2:=hid (show(ar Q++zo).length=co*3 from by rw[←X];simpa using a7);obtain⟨y,hy⟩:∃y,Q[m1]?=some y:=⟨_,List.getElem?_eq_getElem (by have:=o.out;omega)⟩;have a1:=hid hy;have N:Q.getLast?=some y:=by rw[List.getLast?_eq_getElem?,o.out];exact hy
     have cu:IntKind.i64.wrap ((m1:Int)+1-1)=(m1:Int):=by rw[IntWalk.i64_in _ (by omega)];omega
     have cv:IntKind.i64.wrap (m1:Int)=(m1:Int):=IntWalk.i64_in _ (by omega);have db:(0:Int)<(m1:Int)+1:=by omega
     have dc:(m1:Int)<(m1:Int)+1:=by omega
     have dg:(0:Int)≤(m1:Int):=by omega
     have ds:((m1:Int)).toNat=m1:=Int.toNat_natCast m1;have an:=hid (show m1*3+x.cells.length≤(ar Q++zo).length from by rw[a2.out];show _+3≤_;omega);have K:=hid a4;have aq:=hid bb;have bx:=hid a6;clear a4 hy X a8 a7 R bb a6
     by_cases F:y.lba=x.lba
     ·have D:=hid (show bH (l.take (k+1)) ep=Q.dropLast++[x]from by rw[bA];unfold du;rw[if_pos s,N];simp only[if_pos F])
      have b9:(x.lba==y.lba)=true:=beq_iff_eq.2 F.symm;clear bA N
      go_upto_region 7 with(first
       |((with_reducible refine ao 130 (.tmp 14) g (k*3) x.cells _ (some 15) L.out underlying130 rfl aM ?hg ?ho ?hds ?hx ?_);(case ho|hg|hds|hx=>rfl))
       |((with_reducible refine ab 130 _ cE (some 7) ?hgd ?ho ?hd ?_);(case hgd|ho|hd=>rfl);(intro q w5 t H I Z))
       |((with_reducible refine aa 130 (.tmp 7) (.tmp 15) q (ag.cells ⟨0,0,0⟩) x.cells 130 H rfl aM (bV _) ?hgd ?ho ?hx ?hy ?_);(case hgd|ho|hx|hy=>rfl);(intro w6 u J;have y0:=u.cell (i:=0) rfl;have Y:w6.cell? ⟨q,1,none⟩=some (.int .i64 ep):=(by rw[←s];exact u.cell (i:=1) rfl)))
       |fail)
      have j:=hid u;have a:Below wr.heap.size wr w6:=J.below (I.mono t) t;have aA:=hid (show P.heap.size≤q from Nat.le_trans c.size t);have b:=hid (c.trans (a.mono c.size)).drew;have v:=hid (own_below a.drew B.out);have p:=hid ((K.below a K.lt).drew);have q1:w6.drew.cell? ⟨M,m1*3,none⟩=some (.int .i64 x.lba):=by rw[←F];exact ed p.out a1.out 0 _ rfl
      have q2:w6.drew.cell? ⟨q,0,none⟩=some (.int .i64 x.lba):=j.drew.cell (i:=0) rfl;clear H I Z J t a y0 Y;refine aB (by kernel_rfl) (by kernel_rfl) ?_
      repeat still_step
      refine wpStill_nil ?_;clear q1 q2;have d:=hid j.drew;obtain⟨S,f⟩:∃S,S=w6.drew:=⟨_,rfl⟩;rw[←f]at b v d;rw[←f];rw[←f]at p;clear j u f
      go_wp2_with (first
       |((with_reducible refine aj 130 (.tmp 7) q x.cells 130 _ d.out underlying130 rfl aM ?hgd ?ho ?hx ?_);(case hgd|ho|hx=>rfl))
       |((with_reducible refine lA 130 (.tmp 39) (.tmp 38) M (m1*3) x.cells (ar Q++zo) 130 p.out an.out aM (bV _) ?hgd ?ho ?hx ?hy ?_);(case hgd|ho|hx|hy=>rfl);(intro w9 B9 o9;have bw:=hid B9;have ad:=hid (o9.below b.out aq.out)))
       |fail)
      go_roundw
      case rel=>
       refine⟨k+1,by omega,by go_num,hid ?_,hid ad.out⟩;rw[D.out];have b6:(ar Q).length=(m1+1)*3:=by rw[fl,o.out]
       have a9:(Q.dropLast++[x]).length=m1+1:=by rw[List.length_append,List.length_dropLast,o.out];simp
       have b8:(ar Q++zo).take (m1*3)=ar Q.dropLast:=by rw[List.take_append_of_le_length (by omega),ud,List.dropLast_eq_take,o.out];rfl
       have b5:(ar Q.dropLast).length=m1*3:=by rw[fl,List.length_dropLast,o.out];rfl
       rw[a9];refine⟨by rw[fl,a9], .inr ⟨M,co,_,rfl,aq.out,bw.out,by omega,bx.out, ?_, ?_⟩⟩
       ·have:=a2.out
        rw[List.size_toArray];simp only[List.length_append,List.length_take,List.length_drop,show x.cells.length=3 from rfl,b6]at this ⊢;omega
       ·show List.take ((m1+1)*3) ((ar Q++zo).take (m1*3)++x.cells++(ar Q++zo).drop (m1*3+x.cells.length))= _
        rw[b8,ge,show ar [x]=x.cells from by simp[ar]];exact List.take_left' (by rw[List.length_append,b5];show _+3= _;omega)
      case measure=>simp[intOf];omega
     ·have D:=hid (show bH (l.take (k+1)) ep=Q++[x]from by rw[bA];unfold du;rw[if_pos s,N];simp only[if_neg F])
      have b9:(y.lba==x.lba)=false:=beq_eq_false_iff_ne.2 F;clear bA N
      go_upto_region 7 with(first
       |((with_reducible refine ao 130 (.tmp 14) g (k*3) x.cells _ (some 15) L.out underlying130 rfl aM ?hg ?ho ?hds ?hx ?_);(case ho|hg|hds|hx=>rfl))
       |((with_reducible refine ab 130 _ cE (some 7) ?hgd ?ho ?hd ?_);(case hgd|ho|hd=>rfl);(intro q w5 t H I Z))
       |((with_reducible refine aa 130 (.tmp 7) (.tmp 15) q (ag.cells ⟨0,0,0⟩) x.cells 130 H rfl aM (bV _) ?hgd ?ho ?hx ?hy ?_);(case hgd|ho|hx|hy=>rfl);(intro w6 u J;have y0:=u.cell (i:=0) rfl;have Y:w6.cell? ⟨q,1,none⟩=some (.int .i64 ep):=(by rw[←s];exact u.cell (i:=1) rfl)))
       |fail)
      have j:=hid u;have a:Below wr.heap.size wr w6:=J.below (I.mono t) t;have aA:=hid (show P.heap.size≤q from Nat.le_trans c.size t);have b:=hid (c.trans (a.mono c.size)).drew;have v:=hid (own_below a.drew B.out);have p:=hid ((K.below a K.lt).drew);have q1:w6.drew.cell? ⟨M,m1*3,none⟩=some (.int .i64 y.lba):=ed p.out a1.out 0 _ rfl;have q2:w6.drew.cell? ⟨q,0,none⟩=some (.int .i64 x.lba):=j.drew.cell (i:=0) rfl;clear H I Z J t a y0 Y;refine aB (by kernel_rfl) (by kernel_rfl) ?_
      repeat still_step
      refine wpStill_nil ?_;clear q1 q2;have d:=hid j.drew;obtain⟨S,f⟩:∃S,S=w6.drew:=⟨_,rfl⟩;rw[←f]at b v d;rw[←f];clear j u f p
      go_wp2_with (first
       |((with_reducible refine aj 130 (.tmp 7) q x.cells 130 _ d.out underlying130 rfl aM ?hgd ?ho ?hx ?_);(case hgd|ho|hx=>rfl))
       |((with_reducible refine bi 209 130 1 ?parts x.cells (.agg #[.int .i64 0, .int .i64 0, .int .i64 0]) 3 24 (some 42) underlying209 j6 (by omega) (by omega) ?hgd ?ho ?hd ?hf ?_);(case hgd|ho|hd=>rfl);(case hf=>kernel_rfl);(intro g8 w8 l8 B8 e8 z8;have U:=hid B8;have h:=hid (b.out.trans (e8.mono (Nat.le_trans b.out.size l8)));have C:=hid (own_below (e8.mono l8) v.out)))
       |(at_builtin;refine wpList_append_own_wide _ rfl _ _ 209 rfl P.heap.size 130 i0 (.agg #[.int .i64 0, .int .i64 0, .int .i64 0]) 3 24 underlying209 hi bd be bk rfl (by decide) _ (m1+1) (ar Q) rfl C.out ⟨g8,0,none⟩ 1 1 x.cells rfl rfl (bI U.out) (bV _) (by unfold maxLen;omega) (by omega) h.size ?_;intro v' w9 G A bm)
       |fail)
      go_roundw
      case rel=>
       refine⟨k+1,by omega,by go_num,hid ?_,hid (dH h.out C.out A (Nat.le_refl _) h.size)⟩;rw[D.out]
       show World.ownsRow _ _ _ _ _ _ _
       rw[ge,List.length_append,o.out];have V:ar [x]=x.cells:=by simp[ar]
       rw[V];exact G
      case measure=>simp[intOf];omega
    ·obtain rfl:m=0:=by omega
     obtain rfl:Q=[]:=List.eq_nil_of_length_eq_zero o.out;have D:=hid (show bH (l.take (k+1)) ep=[]++[x]from by rw[bA];unfold du;rw[if_pos s];rfl);clear bA
     go_upto_region 7 with(first
      |((with_reducible refine ao 130 (.tmp 14) g (k*3) x.cells _ (some 15) L.out underlying130 rfl aM ?hg ?ho ?hds ?hx ?_);(case ho|hg|hds|hx=>rfl))
      |((with_reducible refine ab 130 _ cE (some 7) ?hgd ?ho ?hd ?_);(case hgd|ho|hd=>rfl);(intro q w5 t H I Z))
      |((with_reducible refine aa 130 (.tmp 7) (.tmp 15) q (ag.cells ⟨0,0,0⟩) x.cells 130 H rfl aM (bV _) ?hgd ?ho ?hx ?hy ?_);(case hgd|ho|hx|hy=>rfl);(intro w6 u J;have y0:=u.cell (i:=0) rfl;have Y:w6.cell? ⟨q,1,none⟩=some (.int .i64 ep):=(by rw[←s];exact u.cell (i:=1) rfl)))
      |fail)
     have j:=hid u;have a:Below wr.heap.size wr w6:=J.below (I.mono t) t;have aA:=hid (show P.heap.size≤q from Nat.le_trans c.size t);have b:=hid (c.trans (a.mono c.size)).drew;have v:=hid (own_below a.drew B.out);clear H I Z J t a y0 Y;go_region;have d:=hid j.drew;obtain⟨S,f⟩:∃S,S=w6.drew:=⟨_,rfl⟩;rw[←f]at b v d;rw[←f];clear j u f
     go_wp2_with (first
      |((with_reducible refine aj 130 (.tmp 7) q x.cells 130 _ d.out underlying130 rfl aM ?hgd ?ho ?hx ?_);(case hgd|ho|hx=>rfl))
      |((with_reducible refine bi 209 130 1 ?parts x.cells (.agg #[.int .i64 0, .int .i64 0, .int .i64 0]) 3 24 (some 42) underlying209 j6 (by omega) (by omega) ?hgd ?ho ?hd ?hf ?_);(case hgd|ho|hd=>rfl);(case hf=>kernel_rfl);(intro g8 w8 l8 B8 e8 z8;have U:=hid B8;have h:=hid (b.out.trans (e8.mono (Nat.le_trans b.out.size l8)));have C:=hid (own_below (e8.mono l8) v.out)))
      |(at_builtin;refine wpList_append_own_wide _ rfl _ _ 209 rfl P.heap.size 130 i0 (.agg #[.int .i64 0, .int .i64 0, .int .i64 0]) 3 24 underlying209 hi bd be bk rfl (by decide) _ 0 (ar []) rfl C.out ⟨g8,0,none⟩ 1 1 x.cells rfl rfl (bI U.out) (bV _) (by unfold maxLen;omega) (by omega) h.size ?_;intro v' w9 G A bm)
      |fail)
     go_roundw
     case rel=>
      refine⟨k+1,by omega,by go_num,hid ?_,hid (dH h.out C.out A (Nat.le_refl _) h.size)⟩;rw[D.out]
      show World.ownsRow _ _ _ _ _ _ _
      rw[ge,List.length_append,o.out];have V:ar [x]=x.cells:=by simp[ar]
      rw[V];exact G
     case measure=>simp[intOf];omega
   ·have HS:=hid (show bH (l.take (k+1)) ep=Q from by rw[bA];unfold du;rw[if_neg s])
    have cw:(x.epoch==ep)=false:=beq_eq_false_iff_ne.2 s;clear bA
    go_wp2_with (first
     |((with_reducible refine ao 130 (.tmp 14) g (k*3) x.cells _ (some 15) L.out underlying130 rfl aM ?hg ?ho ?hds ?hx ?_);(case ho|hg|hds|hx=>rfl))
     |((with_reducible refine ab 130 _ cE (some 7) ?hgd ?ho ?hd ?_);(case hgd|ho|hd=>rfl);(intro q w5 t H I Z))
     |((with_reducible refine aa 130 (.tmp 7) (.tmp 15) q (ag.cells ⟨0,0,0⟩) x.cells 130 H rfl aM (bV _) ?hgd ?ho ?hx ?hy ?_);(case hgd|ho|hx|hy=>rfl);(intro w6 u J;have Y:w6.cell? ⟨q,1,none⟩=some (.int .i64 x.epoch):=u.cell (i:=1) rfl))
     |fail)
    have a:Below wr.heap.size wr w6:=J.below (I.mono t) t;go_roundw
    case rel=>
     refine⟨k+1,by omega,by go_num,hid ?_,hid (c.trans (a.mono c.size))⟩;rw[HS.out,o.out];exact own_below a B.out
    case measure=>simp[intOf];omega
  ·obtain rfl:k=n:=by omega
   go_wp2_with fail;go_ret;refine⟨⟨_,rfl,FK ?_ T.size⟩,T.trans (c.mono T.size)⟩
   have:=HO.out
   rw[List.take_of_length_le (by rw[HL.out];exact Nat.le_refl _)]at this;exact this
open Go.Maps Go.WideMaps
def fA (v:ai) (b:av) (lba ep:Int) (q:Option ag):Int:=
 if iq v lba=0 then(if ep<v.last.geo.first∨v.epoch<ep∨q.isSome=false then 7 else if b.gone (iM q).epoch=true then 13 else 0)else iq v lba
def fu (q:Int) (l:List UInt8) (e:Ending):Prop:=if q=0 then ∃r,e= .returned (.tuple #[.string r, .int .i64 0])∧ah r l else e= .returned (.tuple #[.string ⟨#[]⟩, .int .i64 q])
theorem fu.no {q k:Int} {l:List UInt8} (b:q=k) (a:k≠0):fu q l (.returned (.tuple #[.string ⟨#[]⟩, .int .i64 k])):=by
 unfold fu;subst b;rw[if_neg a]
theorem zy (i:ap) (v:ai) (b:av) (lba ep:Int) (m:Nat) (l:List UInt8) (w:World) (h:al w i v) (bl:br v.U v.L v.G b) (bo:v.vers.length≤4096)
  (V:∀(i j:Nat) (a b:ag),v.vers[i]?=some a→v.vers[j]?=some b→i≤j→dL lba ep b→dL lba ep a) (bk:fp v.vers lba ep m) (bs:0≤(iM (cj v.vers lba m)).epoch∧(iM (cj v.vers lba m)).epoch≤4294967295)
  (bm:fA v b lba ep (cj v.vers lba m)=0→∀B,al B i v→Calls prog 89 #[.pointer (some ⟨i.vb,0,none⟩), .agg (iM (cj v.vers lba m)).cells.toArray] B fun e w'=>(∃r,e= .returned (.tuple #[.string r, .int .i64 0])∧ah r l)∧Below B.heap.size B w'):
  Calls prog 26 #[.pointer (some ⟨i.vb,0,none⟩), .int .i64 lba, .int .i64 ep] w fun e w'=>fu (fA v b lba ep (cj v.vers lba m)) l e∧Below w.heap.size w w':=by
 have ck:∀(a b c:Int) (w:World),Sem.run prog (Instr.field 23 (.agg #[.int .i64 a, .int .i64 b, .int .i64 c]) 2) w= .ok (.int .i64 c) w:=fun _ _ _ _=>by kernel_rfl
 have H:=hid (qh i v lba w h);have E:=hid (fun(B:World) (hx:al B i v)=>vq i.xb v.vers.length m i.xv v.vers lba ep B hx.index hx.vers rfl bo V bk);have a8:=hid (fun(B:World) (hx:al B i v)=>iL i v B hx);have a2:=hid bm;have Z:=hid bs;obtain⟨q,hq⟩:∃q,cj v.vers lba m=q:=⟨_,rfl⟩;rw[hq]at E a2 Z;rw[hq];obtain⟨x,hx⟩:∃x,iM q=x:=⟨_,rfl⟩;rw[hx]at E a2 Z;obtain⟨z,hz⟩:∃z,q.isSome=z:=⟨_,rfl⟩;rw[hz]at E;obtain⟨pl,a4⟩:∃pl,iq v lba=pl:=⟨_,rfl⟩;rw[a4]at H;obtain⟨⟨blocks,bt,first⟩,hl⟩:∃s,v.last.geo=s:=⟨_,rfl⟩
 have Y:=hid (fun(B:World) (hx:al B i v)=>show Calls prog 49 #[.pointer (some ⟨i.vb,0,none⟩)] B fun e w'=>e= .returned (.agg #[.int .i64 blocks, .int .i64 bt, .int .i64 first])∧Below B.heap.size B w' from by
  have:=a8.out B hx
  rw[hl]at this;exact this)
 obtain⟨ve,bn⟩:∃ve,v.epoch=ve:=⟨_,rfl⟩;have S:=hid bn;have HF:=hid (show v.last.geo.first=first by rw[hl]);have HX:=hid hx;have HZ:=hid hz;have I:=hid a4;have bw:=hid bl;have H0:=hid h;clear h bl bo V bk bs bm a8 hq hx hz a4 hl bn
 by_cases h0:pl=0
 case neg=>
  have M:=hid (show fA v b lba ep q=pl by unfold fA;rw[I.out,if_neg h0]);have HN:=hid h0;go_enter func26,ntmps26;go_wp2_with fail;refine H.mono ?_;rintro e w1 ⟨rfl,f⟩;have d:=hid f;have D:=hid (H0.below f);clear f;go_wp2_with fail;go_ret2;exact⟨fu.no M.out HN.out,d.out⟩
 subst h0
 by_cases h1:ep<first
 case pos=>
  have M:=hid (show fA v b lba ep q=7 by unfold fA;rw[if_pos I.out,if_pos (.inl (by rw[HF.out];exact h1))]);go_enter func26,ntmps26;go_wp2_with fail;refine H.mono ?_;rintro e w1 ⟨rfl,f⟩;have d:=hid f;have D:=hid (H0.below f);clear f;have c3:w1.cell? ⟨i.vb,3,none⟩=some (.pointer (some ⟨i.xb,0,none⟩)):=D.vol.cell (i:=3) rfl;go_wp2_with fail
  refine(E.out _ D.out).mono ?_
  rintro e X ⟨rfl,t⟩;have o:=hid (d.trans (t.mono d.size));have H2:=hid (D.below t);clear t c3
  go_upto_region 5 with(first
    |((with_reducible refine ab 130 _ cE (some 9) ?hgd ?ho ?hd ?_);(case hgd|ho|hd=>rfl);(intro b9 w3 F O T z9))
    |((with_reducible refine aa 130 (.tmp 9) (.tmp 25) b9 (ag.cells ⟨0,0,0⟩) x.cells 130 O rfl aM (bV _) ?hgd ?ho ?hx ?hy ?_);(case hgd|ho|hx|hy=>rfl);(intro w4 N W))
    |fail)
  have A:=hid N;have u:Below X.heap.size X w4:=W.below (T.mono F) F;have P:=hid (H2.below u);have p:=hid (o.trans (u.mono o.size));clear N O T W z9 F u;go_wp2_with fail
  refine(Y.out _ P.out).mono ?_
  rintro e w5 ⟨rfl,k⟩;have Q:=hid (P.below k);have J:=hid (A.below k A.lt);have y:=hid (p.trans (k.mono p.size));clear k;go_wp2_with fail;go_ret2;exact⟨fu.no M.out (by decide),y.out⟩
 by_cases h2:ve<ep
 case pos=>
  have M:=hid (show fA v b lba ep q=7 by unfold fA;rw[if_pos I.out,if_pos (.inr (.inl (by rw[S.out];exact h2)))]);go_enter func26,ntmps26;go_wp2_with fail;refine H.mono ?_;rintro e w1 ⟨rfl,f⟩;have d:=hid f;have D:=hid (H0.below f);clear f;have c3:w1.cell? ⟨i.vb,3,none⟩=some (.pointer (some ⟨i.xb,0,none⟩)):=D.vol.cell (i:=3) rfl;go_wp2_with fail
  refine(E.out _ D.out).mono ?_
  rintro e X ⟨rfl,t⟩;have o:=hid (d.trans (t.mono d.size));have H2:=hid (D.below t);clear t c3
  go_upto_region 5 with(first
    |((with_reducible refine ab 130 _ cE (some 9) ?hgd ?ho ?hd ?_);(case hgd|ho|hd=>rfl);(intro b9 w3 F O T z9))
    |((with_reducible refine aa 130 (.tmp 9) (.tmp 25) b9 (ag.cells ⟨0,0,0⟩) x.cells 130 O rfl aM (bV _) ?hgd ?ho ?hx ?hy ?_);(case hgd|ho|hx|hy=>rfl);(intro w4 N W))
    |fail)
  have A:=hid N;have u:Below X.heap.size X w4:=W.below (T.mono F) F;have P:=hid (H2.below u);have p:=hid (o.trans (u.mono o.size));clear N O T W z9 F u;go_wp2_with fail
  refine(Y.out _ P.out).mono ?_
  rintro e w5 ⟨rfl,k⟩;have Q:=hid (P.below k);have J:=hid (A.below k A.lt);have y:=hid (p.trans (k.mono p.size));clear k;have c5:w5.cell? ⟨i.vb,5,none⟩=some (.pointer (some ⟨i.bb,0,none⟩)):=Q.vol.cell (i:=5) rfl;go_wp2_with fail
  refine(aR i.bb i.c2 v.first ve i.m1 i.m2 i.m3 _ (by rw[←S.out];exact Q.book)).mono ?_
  rintro e w' ⟨rfl,rfl⟩;go_wp2_with fail;go_ret2;exact⟨fu.no M.out (by decide),y.out⟩
 have HR:=hid (And.intro h1 h2)
 cases z with
 |false=>
  have M:=hid (show fA v b lba ep q=7 by unfold fA;rw[if_pos I.out,if_pos (.inr (.inr HZ.out))]);go_enter func26,ntmps26;go_wp2_with fail;refine H.mono ?_;rintro e w1 ⟨rfl,f⟩;have d:=hid f;have D:=hid (H0.below f);clear f;have c3:w1.cell? ⟨i.vb,3,none⟩=some (.pointer (some ⟨i.xb,0,none⟩)):=D.vol.cell (i:=3) rfl;go_wp2_with fail
  refine(E.out _ D.out).mono ?_
  rintro e X ⟨rfl,t⟩;have o:=hid (d.trans (t.mono d.size));have H2:=hid (D.below t);clear t c3
  go_upto_region 5 with(first
    |((with_reducible refine ab 130 _ cE (some 9) ?hgd ?ho ?hd ?_);(case hgd|ho|hd=>rfl);(intro b9 w3 F O T z9))
    |((with_reducible refine aa 130 (.tmp 9) (.tmp 25) b9 (ag.cells ⟨0,0,0⟩) x.cells 130 O rfl aM (bV _) ?hgd ?ho ?hx ?hy ?_);(case hgd|ho|hx|hy=>rfl);(intro w4 N W))
    |fail)
  have A:=hid N;have u:Below X.heap.size X w4:=W.below (T.mono F) F;have P:=hid (H2.below u);have p:=hid (o.trans (u.mono o.size));clear N O T W z9 F u;go_wp2_with fail
  refine(Y.out _ P.out).mono ?_
  rintro e w5 ⟨rfl,k⟩;have Q:=hid (P.below k);have J:=hid (A.below k A.lt);have y:=hid (p.trans (k.mono p.size));clear k;have c5:w5.cell? ⟨i.vb,5,none⟩=some (.pointer (some ⟨i.bb,0,none⟩)):=Q.vol.cell (i:=5) rfl;go_wp2_with fail
  refine(aR i.bb i.c2 v.first ve i.m1 i.m2 i.m3 _ (by rw[←S.out];exact Q.book)).mono ?_
  rintro e w' ⟨rfl,rfl⟩;go_wp2_with fail;go_ret2;exact⟨fu.no M.out (by decide),y.out⟩
 |true=>
  go_enter func26,ntmps26;go_wp2_with fail;refine H.mono ?_;rintro e w1 ⟨rfl,f⟩;have d:=hid f;have D:=hid (H0.below f);clear f;have c3:w1.cell? ⟨i.vb,3,none⟩=some (.pointer (some ⟨i.xb,0,none⟩)):=D.vol.cell (i:=3) rfl;go_wp2_with fail
  refine(E.out _ D.out).mono ?_
  rintro e X ⟨rfl,t⟩;have o:=hid (d.trans (t.mono d.size));have H2:=hid (D.below t);clear t c3
  go_upto_region 5 with(first
    |((with_reducible refine ab 130 _ cE (some 9) ?hgd ?ho ?hd ?_);(case hgd|ho|hd=>rfl);(intro b9 w3 F O T z9))
    |((with_reducible refine aa 130 (.tmp 9) (.tmp 25) b9 (ag.cells ⟨0,0,0⟩) x.cells 130 O rfl aM (bV _) ?hgd ?ho ?hx ?hy ?_);(case hgd|ho|hx|hy=>rfl);(intro w4 N W))
    |fail)
  have A:=hid N;have u:Below X.heap.size X w4:=W.below (T.mono F) F;have P:=hid (H2.below u);have p:=hid (o.trans (u.mono o.size));clear N O T W z9 F u;go_wp2_with fail
  refine(Y.out _ P.out).mono ?_
  rintro e w5 ⟨rfl,k⟩;have Q:=hid (P.below k);have J:=hid (A.below k A.lt);have y:=hid (p.trans (k.mono p.size));clear k;have c5:w5.cell? ⟨i.vb,5,none⟩=some (.pointer (some ⟨i.bb,0,none⟩)):=Q.vol.cell (i:=5) rfl;go_wp2_with fail
  refine(aR i.bb i.c2 v.first ve i.m1 i.m2 i.m3 _ (by rw[←S.out];exact Q.book)).mono ?_
  rintro e w' ⟨rfl,rfl⟩;go_upto_region 7 with fail;refine hb (fun B=>B.cell? ⟨i.vb,5,none⟩=some (.pointer (some ⟨i.bb,0,none⟩))∧B.cell? ⟨b9,1,none⟩=some (.int .i64 x.epoch)) (⟨Q.vol.drew.cell (i:=5) rfl,J.drew.cell (i:=1) rfl⟩) fun C=> ?_
  obtain⟨wd,aq⟩:∃B,B=w5.drew:=⟨_,rfl⟩;have an:Below w5.heap.size w5 wd:=by rw[aq];exact(Below.refl _ _).drew
  have Hd:=hid (Q.below an);have bd:=hid (J.below an J.lt);have R:=hid (y.trans (an.mono y.size));rw[←aq];rw[←aq]at C;clear aq an c5;refine hp 0 ?_;refine hp 1 ?_;refine hp 2 ?_;refine hp 3 ?_;refine hp 4 ?_;refine hp 5 ?_;refine hc 6 fun K hK=> ?_
  go_simp
  refine(jt i.bb i.c2 i.m1 i.m2 i.m3 v.n v.first v.epoch x.epoch v.U v.L v.G (b.gone x.epoch) _ Hd.book Hd.maps Z.out.1 Z.out.2 (bw.g _)).mono ?_
  rintro e w' ⟨rfl,rfl⟩
  (try go_wp2_with fail)
  refine hK.out _ _ (⟨Hd.vol.cell (i:=5) rfl,bd.cell (i:=1) rfl⟩) fun _=> ?_
  clear hK K C;rename_i C
  (try go_frame)
  refine hp 7 ?_;refine hd ?_;clear C
  have a9:=hid (show¬(ep<v.last.geo.first∨v.epoch<ep∨q.isSome=false) by
   rw[HF.out,S.out,HZ.out]
   have:=HR.out
   simp
   omega)
  obtain⟨g,hg⟩:∃g,b.gone x.epoch=g:=⟨_,rfl⟩;have HG:=hid hg;rw[hg];clear hg
  cases g with
  |true=>
   have M:=hid (show fA v b lba ep q=13 by unfold fA;rw[if_pos I.out,if_neg a9.out,HX.out,if_pos HG.out]);go_wp2_with fail;go_ret2;exact⟨fu.no M.out (by decide),R.out⟩
  |false=>
   have M:=hid (show fA v b lba ep q=0 by unfold fA;rw[if_pos I.out,if_neg a9.out,HX.out,if_neg (by rw[HG.out];decide)])
   go_wp2_with (first
     |((with_reducible refine aj 130 (.tmp 9) b9 x.cells 130 _ bd.out underlying130 rfl aM ?hgd ?ho ?hx ?_);(case hgd|ho|hx=>rfl))
     |fail)
   refine(a2.out M.out _ Hd.out).mono ?_
   rintro e w6 ⟨⟨r,rfl,tr⟩,be⟩;have bx:=hid tr;have a7:=hid (R.trans (be.mono R.size));clear tr be;go_wp2_with fail;go_ret2;refine⟨?_,a7.out⟩;unfold fu;rw[if_pos M.out];exact⟨r,rfl,bx.out⟩
end Go.Proofs.YtadooplpfhdhcaaGreat
