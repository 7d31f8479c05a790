/- A path in a tree of hashes leads its leaf to the root (chapter 15), in plain words. No program in sight. Proofs of places (chapter 16), in plain words: what is proved of a place tells right. No program in sight. A place's proof (chapter 16): the search among leaves. -/
import Derived.Test.YtadooplpfhdhcaaGreatQ29
import Derived.Test.YtadooplpfhdhcaaGreatQ17
import Derived.Test.YtadooplpfhdhcaaGreatQ20
set_option linter.unusedSimpArgs false
set_option linter.unusedVariables false
set_option maxRecDepth 100000
set_option maxHeartbeats 4000000
namespace Go.Proofs.YtadooplpfhdhcaaGreat
open Go
open Go.Lib (hid)
open Go.Proofs.Tryz
theorem Ig (k:Nat):(2*k)^^^1=2*k+1:=by
 have a:((2*k)^^^1)/2=k:=by rw[Nat.xor_div_two];simp
 have b:((2*k)^^^1) % 2=1:=by
  have:=@Nat.xor_mod_two_pow (2*k) 1 1
  rw[show(2:Nat)^1=2 from rfl,show 2*k % 2=0 by omega]at this
  simp
 omega
theorem Jt (k:Nat):(2*k+1)^^^1=2*k:=by
 have a:((2*k+1)^^^1)/2=k:=by rw[Nat.xor_div_two];simp;omega
 have b:((2*k+1)^^^1) % 2=0:=by
  have:=@Nat.xor_mod_two_pow (2*k+1) 1 1
  rw[show(2:Nat)^1=2 from rfl,show(2*k+1) % 2=1 by omega]at this
  simpa using this
 omega
theorem u4 (i:Nat):(i=2*(i/2)∧i^^^1=i+1)∨(i=2*(i/2)+1∧i^^^1=i-1):=by
 rcases Nat.mod_two_eq_zero_or_one i with h|h
 ·have a:i=2*(i/2):=by omega
  refine .inl ⟨a, ?_⟩
  have:=Ig (i/2)
  rw[←a]at this;exact this
 ·have a:i=2*(i/2)+1:=by omega
  refine .inr ⟨a, ?_⟩
  have:=Jt (i/2)
  rw[←a]at this;omega
def pM (s:Nat×List ByteArray) (l:List ByteArray):Nat×List ByteArray:=(s.1/2,s.2++(l[s.1^^^1]?).toList)
def ci (s:Nat×List ByteArray) (ls:List (List ByteArray)):Nat×List ByteArray:=ls.foldl pM s
def hO (l:List ByteArray) (i:Nat):List ByteArray:=(ci (i,[]) (bu l.length l)).2
theorem ma:∀(b:List (List ByteArray)) (i:Nat) (a:List ByteArray),(ci (i,a) b).2=a++(ci (i,[]) b).2
 |[],i,a=>by simp[ci]
 |l::b,i,a=>by
  show(ci (i/2,a++_) b).2=a++(ci (i/2,[]++_) b).2
  rw[ma b,ma b (i/2) ([]++_),List.nil_append,List.append_assoc]
def cT:Nat→Nat→Nat→ByteArray→List ByteArray→Option ByteArray
 |0,_,_,leaf,path=>if path=[]then some leaf else none
 |f+1,c,i,leaf,path=>if 1<c then
   (if i^^^1<c then(match path with|[]=>none|p::r=>cT f ((c+1)/2) (i/2) (if i^^^1<i then kQ p leaf else kQ leaf p) r)else cT f ((c+1)/2) (i/2) leaf path)
  else if path=[]then some leaf else none
theorem pN:∀(k:Nat) (l:List ByteArray) (i:Nat) (x s:ByteArray),l.length≤k→l[i]?=some x→cT k l.length i x (ci (i,[]) (bu k l)).2=some ((bu k l).foldl fy s)
 |0,l,i,x,s,hk,hx=>by have:=(List.getElem?_eq_some_iff.1 hx).1;omega
 |k+1,l,i,x,s,hk,hx=>by
  have b:=(List.getElem?_eq_some_iff.1 hx).1
  by_cases d:l.length<2
  ·obtain⟨y,rfl⟩:∃y,l=[y]:=List.length_eq_one_iff.1 (by omega)
   have e:i=0:=by simp at b;exact b
   subst e;simp at hx;subst hx;rw[bu,if_pos (by simp)];simp[ci,pM,cT,fy]
  ·have c:=eT l
   rw[bu,if_neg d,List.foldl_cons];have f:fy s l=s:=by unfold fy;rw[if_neg (by omega)]
   rw[f]
   have hp:(ci (i,[]) (l::bu k (bz l))).2=(l[i^^^1]?).toList++(ci (i/2,[]) (bu k (bz l))).2:=by
    show(ci (i/2,[]++_) _).2= _
    rw[ma,List.nil_append]
   rw[hp]
   show(if 1<l.length then _ else _)= _
   rw[if_pos (by omega)]
   by_cases hb:i^^^1<l.length
   ·have a:l[i^^^1]?=some l[i^^^1]:=List.getElem?_eq_getElem hb
    rw[if_pos hb,a];simp only[Option.toList_some,List.cons_append,List.nil_append];rw[←c];refine pN k (bz l) (i/2) _ s (by omega) ?_
    rcases u4 i with⟨h1,h3⟩|⟨h1,h3⟩
    ·rw[if_neg (by omega)]
     refine pF l (i/2) x _ (by rw[←h1];exact hx) ?_;rw[←h1,←h3];exact a
    ·rw[if_pos (by omega)]
     refine pF l (i/2) _ x ?_ (by rw[←h1];exact hx);rw[show 2*(i/2)=i^^^1 by omega];exact a
   ·have a:l[i^^^1]?=none:=List.getElem?_eq_none (by omega)
    rw[if_neg hb,a];simp only[Option.toList_none,List.nil_append];rw[←c];refine pN k (bz l) (i/2) x s (by omega) ?_
    rcases u4 i with⟨h1,h3⟩|⟨h1,h3⟩
    ·exact uM l (i/2) x (by rw[←h1];exact hx) (by omega)
    ·omega
theorem Ih {l:List ByteArray} {i:Nat} {x:ByteArray} (a:l[i]?=some x):cT l.length l.length i x (hO l i)=some ⟨(rO l).toArray⟩:=
 pN l.length l i x _ (Nat.le_refl _) a
theorem xX:∀(k:Nat) (l:List ByteArray),(∀x∈l,x.size=32)→∀y∈bu k l,∀x∈y,x.size=32
 |0,l,h=>by intro y hy;simp[bu]at hy;subst hy;exact h
 |k+1,l,h=>by
  intro y hy;unfold bu at hy
  split at hy
  ·simp at hy;subst hy;exact h
  ·rcases List.mem_cons.1 hy with rfl|hy
   ·exact h
   ·exact xX k _ (kR l h) y hy
theorem xY:∀(b:List (List ByteArray)) (i:Nat),(∀y∈b,∀x∈y,x.size=32)→(∀x∈(ci (i,[]) b).2,x.size=32)∧(ci (i,[]) b).2.length≤b.length
 |[],i,_=>⟨fun x a=>by simp[ci]at a,Nat.le_refl _⟩
 |l::b,i,h=>by
  have hp:(ci (i,[]) (l::b)).2=(l[i^^^1]?).toList++(ci (i/2,[]) b).2:=by
   show(ci (i/2,[]++_) _).2= _
   rw[ma,List.nil_append]
  obtain⟨c,d⟩:=xY b (i/2) (fun y hy=>h y (List.mem_cons_of_mem _ hy));rw[hp];refine⟨fun x a=> ?_, ?_⟩
  ·rcases List.mem_append.1 a with a|a
   ·rw[Option.mem_toList]at a
    exact h l (by simp) x (List.mem_of_getElem? a)
   ·exact c x a
  ·rw[List.length_append,List.length_cons]
   cases l[i^^^1]?<;>simp<;>omega
theorem nY:∀(k:Nat) (l:List ByteArray),(bu k l).length≤k+1
 |0,l=>by simp[bu]
 |k+1,l=>by
  unfold bu
  split
  ·simp
  ·have:=nY k (bz l);simp;omega
theorem Ju {l:List ByteArray} (h:∀x∈l,x.size=32) (i:Nat):(∀x∈hO l i,x.size=32)∧(hO l i).length≤l.length+1:=by
 obtain⟨a,b⟩:=xY (bu l.length l) i (xX _ _ h);exact⟨a,Nat.le_trans b (nY _ _)⟩
def ct (l:List ap) (lba:Int):Nat:=(l.takeWhile fun x=>decide (x.lba<lba)).length
def ap.none:ap:=⟨0,⟨#[]⟩⟩
structure lH where
 found:Bool
 pos:Nat
 here:ap
 up:List ByteArray
 ahead:ap
 left:List ByteArray
def eV (l:List ap) (lba:Int):Bool:=match l[ct l lba]? with|some x=>decide (x.lba=lba)|none=>false
def bA (l:List ap) (lba:Int):lH where
 found:=eV l lba
 pos:=ct l lba
 here:=(l[ct l lba]?).getD ap.none
 up:=if ct l lba<l.length then hO (bG l) (ct l lba)else[]
 ahead:=if eV l lba=false∧0<ct l lba then(l[ct l lba-1]?).getD ap.none else ap.none
 left:=if eV l lba=false∧0<ct l lba then hO (bG l) (ct l lba-1)else[]
theorem wJ (l:List ap) (lba:Int):ct l lba≤l.length:=by
 unfold ct
 exact(List.takeWhile_sublist _).length_le
theorem pO {l:List ap} {lba:Int} {k:Nat} {x:ap} (a:l[k]?=some x) (b:k<ct l lba):x.lba<lba:=by
 have h:(l.takeWhile fun x=>decide (x.lba<lba))[k]?=some x:=by
  have hp:=(List.takeWhile_prefix (l:=l) (fun x:ap=>decide (x.lba<lba)));obtain⟨r,c⟩:=hp;rw[←c,List.getElem?_append_left b]at a;exact a
 have:=List.all_takeWhile (l:=l) (p:=fun x:ap=>decide (x.lba<lba))
 rw[List.all_eq_true]at this
 simpa using this x (List.mem_of_getElem? h)
theorem tH {l:List ap} {lba:Int} {x:ap} (c:l[ct l lba]?=some x):¬x.lba<lba:=by
 have:∀(m:List ap),m[(m.takeWhile fun x=>decide (x.lba<lba)).length]?=some x→¬x.lba<lba:=by
  intro m
  induction m with
  |nil=>intro h;simp at h
  |cons a r ih=>
   intro h;rw[List.takeWhile_cons]at h
   by_cases b:a.lba<lba
   ·rw[if_pos (by simpa using b)]at h
    exact ih (by simpa using h)
   ·rw[if_neg (by simpa using b)]at h
    simp at h;subst h;exact b
 exact this l c
theorem Jv {l:List ap} (m:fp l) (lba:Int):eV l lba=true↔∃x∈l,x.lba=lba:=by
 unfold eV
 constructor
 ·intro h
  split at h
  ·rename_i x c
   exact⟨x,List.mem_of_getElem? c,by simpa using h⟩
  ·cases h
 ·rintro⟨x,c,e⟩
  obtain⟨k,b⟩:=List.mem_iff_getElem?.1 c;have i:=(List.getElem?_eq_some_iff.1 b).1;have n:¬k<ct l lba:=fun g=>by have:=pO b g;omega
  have hp:ct l lba<l.length:=by omega
  have a:l[ct l lba]?=some l[ct l lba]:=List.getElem?_eq_getElem hp;have f:=tH a;rw[a]
  by_cases j:ct l lba=k
  ·simp only[decide_eq_true_eq]
   rw[←j,a]at b
   injection b with b
   rw[b,e]
  ·have d:=m.rise (ct l lba) k _ _ a b (by omega)
   rw[e]at d;exact absurd d f
theorem Fg {l:List ap} {k:Nat} {x:ap} (h:l[k]?=some x):(bG l)[k]?=some ⟨(f7 x).toArray⟩:=by unfold bG;rw[List.getElem?_map,h];rfl
theorem jf (l:List ap):(bG l).length=l.length:=by unfold bG;simp
theorem pP (l:List ap):∀x∈bG l,x.size=32:=by
 intro x a;unfold bG at a;obtain⟨y,_,rfl⟩:=List.mem_map.1 a
 show(f7 y).toArray.size=32
 simpa using gj y
theorem xZ {l:List ap} {k:Nat} {x:ap} (h:l[k]?=some x):cT l.length l.length k ⟨(f7 x).toArray⟩ (hO (bG l) k)=some ⟨(kT l).toArray⟩:=by
 have:=Ih (Fg h)
 rw[jf]at this;exact this
structure mO (root:ByteArray) (count:Nat) (lba:Int) (p:lH):Prop where
 pos:p.pos≤count
 found:p.found=true→p.pos<count∧p.here.lba=lba∧p.ahead=ap.none∧p.left=[]
 here:p.pos<count→mJ p.here∧cT count count p.pos ⟨(f7 p.here).toArray⟩ p.up=some root∧(p.found=false→lba<p.here.lba)
 noHere:¬p.pos<count→p.here=ap.none∧p.up=[]
 ahead:p.found=false→0<p.pos→mJ p.ahead∧cT count count (p.pos-1) ⟨(f7 p.ahead).toArray⟩ p.left=some root∧p.ahead.lba<lba
 noAhead:p.found=false→¬0<p.pos→p.ahead=ap.none∧p.left=[]
 up32:∀x∈p.up,x.size=32
 left32:∀x∈p.left,x.size=32
 upL:p.up.length≤count+1
 leftL:p.left.length≤count+1
 zero:count=0→root=⟨(dO []).toArray⟩
theorem AP {l:List ap} (o:fp l) (lba:Int):mO ⟨(kT l).toArray⟩ l.length lba (bA l lba):=by
 have n:=wJ l lba;have j:=pP l
 have e:∀(c:Prop) [Decidable c] (k:Nat),(∀x∈(if c then hO (bG l) k else[]),x.size=32)∧(if c then hO (bG l) k else[]).length≤l.length+1:=fun c _ k=>by
  have d:=Ju j k;rw[jf]at d
  split
  ·exact d
  ·exact⟨fun x b=>by simp at b,by simp⟩
 refine⟨n,fun f=> ?_,fun hp=> ?_,fun hp=> ?_,fun f hp=> ?_,fun f hp=> ?_,(e _ _).1,(e _ _).1,(e _ _).2,(e _ _).2,fun p=> ?_⟩
 ·have a:eV l lba=true:=f
  have g:=a;unfold eV at a
  split at a
  ·rename_i x b
   have m:=(List.getElem?_eq_some_iff.1 b).1;refine⟨m, ?_, ?_, ?_⟩
   ·show((l[ct l lba]?).getD ap.none).lba=lba
    rw[b]
    simpa using a
   ·show(if eV l lba=false∧_ then _ else _)= _
    rw[if_neg (fun d=>by rw[g]at d;cases d.1)]
   ·show(if eV l lba=false∧_ then _ else _)= _
    rw[if_neg (fun d=>by rw[g]at d;cases d.1)]
  ·cases a
 ·have b:l[ct l lba]?=some l[ct l lba]:=List.getElem?_eq_getElem hp
  have h:(bA l lba).here=l[ct l lba]:=by show(l[ct l lba]?).getD _= _;rw[b];rfl
  have i:(bA l lba).up=hO (bG l) (ct l lba):=if_pos hp;rw[h,i];refine⟨o.each _ _ b,xZ b,fun f=> ?_⟩;have a:eV l lba=false:=f;unfold eV at a;rw[b]at a
  have:=tH b
  simp only[decide_eq_false_iff_not]at a;omega
 ·have b:l[ct l lba]?=none:=List.getElem?_eq_none (Nat.le_of_not_lt hp)
  exact⟨by show(l[ct l lba]?).getD _= _;rw[b];rfl,if_neg hp⟩
 ·have hc:eV l lba=false∧0<ct l lba:=⟨f,hp⟩
  have q:0<ct l lba:=hp;have b:l[ct l lba-1]?=some (l[ct l lba-1]'(by omega)):=List.getElem?_eq_getElem _;have h:(bA l lba).ahead=l[ct l lba-1]'(by omega):=by show(if eV l lba=false∧0<ct l lba then _ else _)= _;rw[if_pos hc,b];rfl
  have i:(bA l lba).left=hO (bG l) (ct l lba-1):=by show(if eV l lba=false∧0<ct l lba then _ else _)= _;rw[if_pos hc]
  rw[h,i];exact⟨o.each _ _ b,xZ b,pO b (by omega)⟩
 ·have hc:¬(eV l lba=false∧0<ct l lba):=fun d=>hp d.2
  exact⟨if_neg hc,if_neg hc⟩
 ·have:l=[]:=List.length_eq_zero_iff.1 p
  subst this;simp[kT,rO,bG,bu,fy]
open Go.RowKit
theorem x9 (x:ap) (n:Int) (w:World):
  Calls prog 213 #[.agg x.cells.toArray, .int .i64 n] w fun e w'=>e= .returned (.int .i64 (eo x.lba n))∧Below w.heap.size w w':=by
 go_enter func213,ntmps213
 go_wp2_with (first
  |((with_reducible refine ae 65 (.tmp 0) x.cells (some 2) ?hgd ?ho ?hd ?hx ?_);(case hgd|ho|hd|hx=>rfl);(intro h j c a b g;have f:=a.cell (i:=0) rfl))
  |fail)
 have d:=hid (b.mono c);clear a b c g f
 refine(jT x.lba n _).mono ?_
 rintro e w' ⟨rfl,rfl⟩;go_wp2_with fail;go_ret;exact⟨rfl,d.out⟩
theorem Lc {l:List ap} (f:fp l) {lba:Int} {i:Nat} (e:i≤l.length) (b:∀(t:Nat) (x:ap),l[t]?=some x→t<i→x.lba<lba) (c:∀(t:Nat) (x:ap),l[t]?=some x→i≤t→¬x.lba<lba):ct l lba=i:=by
 rcases Nat.lt_trichotomy (ct l lba) i with h|h|h
 ·have a:l[ct l lba]?=some l[ct l lba]:=List.getElem?_eq_getElem (by omega)
  exact absurd (b _ _ a h) (tH a)
 ·exact h
 ·have d:=wJ l lba
  have a:l[i]?=some l[i]:=List.getElem?_eq_getElem (by omega);exact absurd (pO a h) (c i _ a (Nat.le_refl _))
theorem y7 (p:Option Addr) (n c:Nat) (l:List ap) (lba:Int) (w:World) (h:ed w p n l) (Q:fp l) (hb:n≤4096):
  Calls prog 212 #[.slice p n c, .int .i64 lba, .func (.func 213) #[] #[]] w fun e w'=>e= .returned (.tuple #[.int .i64 ((ct l lba:Nat):Int), .bool (eV l lba)])∧Below w.heap.size w w':=by
 have R:=hid h;have B:=hid h.1;have j:=hid Q;obtain⟨ps,r⟩:∃ps,ct l lba=ps:=⟨_,rfl⟩;obtain⟨hq,o⟩:∃hq,eV l lba=hq:=⟨_,rfl⟩;have k:=hid r;have A:=hid o;rw[r,o];clear h Q r o;go_enter func212,ntmps212;go_wp2_with fail;go_loopw [9,10] (fun s9 N wr=>∃lo hi:Nat,s9= .int .i64 lo∧N= .int .i64 hi∧lo≤hi∧hi≤n∧Hid ((∀(t:Nat) (x:ap),l[t]?=some x→t<lo→x.lba<lba)∧(∀(t:Nat) (x:ap),l[t]?=some x→hi≤t→lba≤x.lba))∧Hid (ed wr p n l)∧Hid (Below w.heap.size w wr)) (fun a b _=>(intOf b).toNat-(intOf a).toNat)
 case atStart=>exact⟨0,n,rfl,rfl,Nat.zero_le _,Nat.le_refl _,hid ⟨fun t x _ u=>absurd u (Nat.not_lt_zero _),fun t x hx u=>by have:=(List.getElem?_eq_some_iff.1 hx).1;have:=B.out;omega⟩,R,hid (Below.refl _ _)⟩
 case round=>
  obtain⟨lo,hi,rfl,rfl,T,K,E,G,i⟩:=hrel
  by_cases V:lo<hi
  ·obtain⟨m,W⟩:∃m:Nat,(lo+hi)/2=m:=⟨_,rfl⟩
   have Z:((lo:Int)+(hi:Int))/2=(m:Int):=by omega
   have M:lo≤m:=by omega
   have X:m<hi:=by omega
   have Y:(m:Int)<(n:Int):=by omega
   have L:(0:Int)≤(m:Int):=by omega
   obtain⟨x,hx⟩:∃x,l[m]?=some x:=⟨_,List.getElem?_eq_getElem (by have:=B.out;omega)⟩;obtain⟨g,z,q,C⟩:=G.out.2 (by omega);subst q;have H:=hid (mi C hx);have F:=hid hx;clear W C hx
   go_wp2_with (first
    |((with_reducible refine ag 65 (.tmp 27) g (m*2) x.cells _ (some 28) H.out underlying65 rfl bX ?hg ?ho ?hds ?hx ?_);(case ho|hg|hds|hx=>rfl))
    |fail)
   refine(x9 x lba _).mono ?_
   rintro e wa ⟨rfl,f⟩;have v:=hid (G.below f);have d:=hid (i.trans (f.mono i.size));clear f
   by_cases hc2:x.lba<lba
   ·have I:eo x.lba lba<0:=mo.2 hc2
    go_wp2_with fail;go_roundw
    case rel=>exact⟨m+1,hi,by go_num,rfl,by omega,K,hid ⟨fun t y hy u=>by
     by_cases s:t=m
     ·subst s
      have:=hy.symm.trans F.out
      injection this with this
      subst this;exact hc2
     ·have:=j.rise t m y x hy F.out (by omega)
      omega,E.out.2⟩,v,d⟩
    case measure=>simp[intOf];omega
   ·have I:¬eo x.lba lba<0:=fun S=>hc2 (mo.1 S)
    go_wp2_with fail;go_roundw
    case rel=>exact⟨lo,m,rfl,rfl,M,by omega,hid ⟨E.out.1,fun t y hy u=>by
     by_cases s:t=m
     ·subst s
      have:=hy.symm.trans F.out
      injection this with this
      subst this;exact hc2
     ·have:=j.rise m t x y F.out hy (by omega)
      omega⟩,v,d⟩
    case measure=>simp[intOf];omega
  ·obtain rfl:lo=hi:=by omega
   obtain rfl:ps=lo:=k.symm.trans (Lc j.out (by have:=B.out;omega) E.out.1 (fun t x hx u=>Int.not_lt.2 (E.out.2 t x hx u)))
   by_cases U:ps<n
   ·have D:(ps:Int)<(n:Int):=by omega
    have L:(0:Int)≤(ps:Int):=by omega
    obtain⟨x,hx⟩:∃x,l[ps]?=some x:=⟨_,List.getElem?_eq_getElem (by have:=B.out;omega)⟩;obtain⟨g,z,q,C⟩:=G.out.2 (by omega);subst q;have H:=hid (mi C hx);obtain rfl:hq=decide (x.lba=lba):=A.symm.trans (by unfold eV;rw[k.out,hx]);clear C hx
    go_wp2_with (first
     |((with_reducible refine ag 65 (.tmp 43) g (ps*2) x.cells _ (some 44) H.out underlying65 rfl bX ?hg ?ho ?hds ?hx ?_);(case ho|hg|hds|hx=>rfl))
     |fail)
    refine(x9 x lba _).mono ?_
    rintro e wa ⟨rfl,f⟩;have d:=hid (i.trans (f.mono i.size));clear f
    have J:(eo x.lba lba==0)=decide (x.lba=lba):=by
     unfold eo
     by_cases O:x.lba<lba
     ·rw[if_pos O,decide_eq_false (by omega)]
      rfl
     ·rw[if_neg O]
      by_cases P:lba<x.lba
      ·rw[if_pos P,decide_eq_false (by omega)]
       rfl
      ·rw[if_neg P,decide_eq_true (by omega)]
       rfl
    go_wp2_with fail;go_ret2;exact⟨by first|rfl|rw[J],d.out⟩
   ·have D:¬(ps:Int)<(n:Int):=by omega
    obtain rfl:hq=false:=A.symm.trans (by unfold eV;rw[k.out,List.getElem?_eq_none (by have:=B.out;omega)]);go_wp2_with fail;go_ret2;exact⟨rfl,i.out⟩
end Go.Proofs.YtadooplpfhdhcaaGreat
