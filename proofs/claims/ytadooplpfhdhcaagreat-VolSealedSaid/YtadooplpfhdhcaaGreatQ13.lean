/- Walks of chain.Said, Tag and the documents' Said, Tag (chapter 20). Walks of chain.Tag, Begin, Follow, and the documents' Tag (chapter 20). Walks of sha.Sum of nothing, chain.Sum; the example of chapter 20. What a statement's parameters hand to its walk: a record by value. -/
import Derived.Test.YtadooplpfhdhcaaGreatQ12
import Derived.Test.YtadooplpfhdhcaaGreatQ6
import Derived.Test.YtadooplpfhdhcaaGreatQ5
import Derived.Test.YtadooplpfhdhcaaGreatQ2
import Derived.Lib.SmallJoins
import Derived.Deep.Fields
import Derived.Deep.QuietTactic
import Derived.BigQuiet
import Derived.Test.YtadooplpfhdhcaaGreatQ4
set_option linter.unusedSimpArgs false
set_option linter.unusedVariables false
set_option maxRecDepth 100000
set_option maxHeartbeats 4000000
namespace Go.Proofs.YtadooplpfhdhcaaGreat
open Go Go.RowKit
open Go.Lib (hid)
open Go.Proofs.Tryz
def Eg (was:List UInt8) (seq:Int) (r:Rec):List UInt8:=was++beBytes 4 seq.toNat++cI r
def iW (was:ByteArray) (seq:Int) (r:Rec):Prop:=was.size=32∧0≤seq∧seq≤4294967295∧aL r=true
instance (was:ByteArray) (seq:Int) (r:Rec):Decidable (iW was seq r):=by unfold iW;infer_instance
def zm (ok:Prop) (l:List UInt8) (e:Ending):Prop:=
 (ok∧∃r,e= .returned (.tuple #[.string r, .bool true])∧aj r l)∨(¬ok∧e= .returned (.tuple #[.string ⟨#[]⟩, .bool false]))
theorem zm.yes {a:Prop} {l:List UInt8} {e:Ending} (h:zm a l e) (b:a):∃r,e= .returned (.tuple #[.string r, .bool true])∧aj r l:=by
 rcases h with⟨_,h⟩|⟨h,_⟩
 ·exact h
 ·exact absurd b h
theorem zm.no {a:Prop} {l:List UInt8} {e:Ending} (h:zm a l e) (b:¬a):e= .returned (.tuple #[.string ⟨#[]⟩, .bool false]):=by
 rcases h with⟨h,_⟩|⟨_,h⟩
 ·exact absurd h b
 ·exact h
theorem eR {r:Rec} (h:aL r=true):(cI r).length≤85:=by
 have:=dH h
 have a:r.root.data.toList.length=r.root.size:=rfl;have b:r.name.data.toList.length=r.name.size:=rfl;unfold cI;rw[List.length_append,List.length_append,mp,cp,cp];omega
theorem jN (n:Int) (w:World) (h:Fits n):
  Calls prog 143 #[.int .i64 n, .int .i64 4] w fun e w'=>Ends (0≤n∧n≤4294967295) (beBytes 4 n.toNat) 2 e∧Below w.heap.size w w':=by
 by_cases a:0≤n∧n≤4294967295
 ·obtain⟨m,rfl⟩:∃m:Nat,n=(m:Int):=⟨n.toNat,by omega⟩
  refine(tA m 4 w (by omega) (by omega) (by omega) (fun _=>by show m<4294967296;omega)).mono ?_
  rintro e i ⟨r,rfl,b,hb⟩;exact⟨.inl ⟨a,r,rfl,b⟩,hb⟩
 ·by_cases c:n<0
  ·go_enter func143,ntmps143
   go_wp2_with fail;go_ret2;exact⟨.inr ⟨a,rfl⟩,Below.refl _ _⟩
  ·have d:0≤n:=by omega
   have f:4294967296≤n:=by omega
   have g:(0:Int)<n/4294967296:=by omega
   go_enter func143,ntmps143;go_wp2_with fail;go_ret2;exact⟨.inr ⟨by omega,rfl⟩,Below.refl _ _⟩
theorem Eh (c:ByteArray) (a:Int) (r:Rec) (w:World) (j:r.root.size≤1048576) (g:r.name.size≤1048576) (E:Fits r.epoch) (u:Fits a):
  Calls prog 208 #[.string c, .int .i64 a,r.v] w fun e w'=>Ends (iW c a r) (Eg c.data.toList a r) 2 e∧Below w.heap.size w w':=by
 by_cases k:0≤a∧a≤4294967295
 rotate_left
 ·go_enter func208,ntmps208
  go_wp2_with ((with_reducible refine ae 59 (.tmp 2) r.cells (some 5) ?hgd ?ho ?hd ?hx ?_);(case hgd|ho|hd|hx=>rfl);(intro b w0 m s l y))
  refine(jN a _ u).mono ?_
  rintro e B ⟨f,d⟩;have f:=f.no k;subst f;go_wp2_with fail;go_ret2;exact⟨.inr ⟨fun h=>k ⟨h.2.1,h.2.2.1⟩,rfl⟩,(l.mono m).trans (d.mono (by omega))⟩
 by_cases z:c.size=32
 rotate_left
 ·have D:¬(c.size:Int)=32:=by omega
  go_enter func208,ntmps208;go_wp2_with ((with_reducible refine ae 59 (.tmp 2) r.cells (some 5) ?hgd ?ho ?hd ?hx ?_);(case hgd|ho|hd|hx=>rfl);(intro b w0 m s l y))
  refine(jN a _ u).mono ?_
  rintro e B ⟨f,d⟩;obtain⟨q,rfl,x⟩:=f.yes k;clear f;go_wp2_with fail;go_ret2;exact⟨.inr ⟨fun h=>z h.1,rfl⟩,(l.mono m).trans (d.mono (by omega))⟩
 have D:(c.size:Int)=32:=by omega
 have F:c.size≤32:=by omega
 go_enter func208,ntmps208;go_wp2_with ((with_reducible refine ae 59 (.tmp 2) r.cells (some 5) ?hgd ?ho ?hd ?hx ?_);(case hgd|ho|hd|hx=>rfl);(intro b w0 m s l y))
 refine(jN a _ u).mono ?_
 rintro e B ⟨f,d⟩;obtain⟨q,rfl,x⟩:=f.yes k;clear f;have H:q.size≤4:=by rw[x.size,beBytes_length];omega
 have C:=hid (s.below d y);clear s;go_wp2_with ((with_reducible refine al 59 (.tmp 5) b r.cells 59 _ C.out underlying59 rfl cF ?hgd ?ho ?hx ?_);(case hgd|ho|hx=>rfl))
 refine(rW r _ j g E).mono ?_
 rintro e I ⟨⟨i,p,rfl,A⟩|⟨o,rfl⟩,n⟩
 ·have G:p.size≤85:=by rw[A.size];exact eR i
  have t:=hid i;clear i;go_wp2_with fail;go_ret2;refine⟨.inl ⟨⟨z,k.1,k.2,t.out⟩,_,rfl,((aj.self c).append x).append A⟩,(l.mono m).trans ((bt d n).mono (by omega))⟩
 ·have t:=hid o;clear o
  go_wp2_with fail;go_ret2;exact⟨.inr ⟨fun h=>by have:=h.2.2.2;rw[t.out]at this;exact absurd this (by decide),rfl⟩,(l.mono m).trans ((bt d n).mono (by omega))⟩
def iL (key was:List UInt8) (seq:Int) (r:Rec):List UInt8:=r4 (ig key [109,97,99] []) (Eg was seq r)
theorem dt (key b:List UInt8) (a:Int) (r:Rec):(iL key b a r).length=32:=lR _ _
theorem xf (key a:ByteArray) (c:Int) (r:Rec) (w:World) (i:r.root.size≤1048576) (g:r.name.size≤1048576) (A:Fits r.epoch) (B:Fits c):
  Calls prog 131 #[.string key, .string a, .int .i64 c,r.v] w fun e w'=>Ends (key.size=32∧iW a c r) (iL key.data.toList a.data.toList c r) 2 e∧Below w.heap.size w w':=by
 go_enter func131,ntmps131;go_wp2_with ((with_reducible refine ae 59 (.tmp 3) r.cells (some 7) ?hgd ?ho ?hd ?hx ?_);(case hgd|ho|hd|hx=>rfl);(intro b w0 s u n D))
 refine(DR key _).mono ?_
 rintro e H ⟨⟨j,q,rfl,y⟩|⟨j,rfl⟩,d⟩
 ·have l:=hid j;clear j
  have G:q.size≤32:=by rw[y.size,fA];omega
  have z:=hid (u.below d D);clear u;go_wp2_with ((with_reducible refine al 59 (.tmp 7) b r.cells 59 _ z.out underlying59 rfl cF ?hgd ?ho ?hx ?_);(case hgd|ho|hx=>rfl))
  refine(Eh a c r _ i g A B).mono ?_
  rintro e I ⟨⟨f,p,rfl,x⟩|⟨f,rfl⟩,k⟩
  ·have F:p.size≤121:=by
    rw[x.size];unfold Eg;rw[List.length_append,List.length_append,beBytes_length]
    have:=eR f.2.2.2
    have E:a.data.toList.length=a.size:=rfl
    have:=f.1
    omega
   have m:=hid f;clear f;go_wp2_with fail
   refine(tU q p _ (by omega) (by omega)).mono ?_
   rintro e J ⟨t,rfl,C,o⟩;go_wp2_with fail;go_ret2;refine⟨.inl ⟨⟨l.out,m.out⟩,t,rfl,C.cast ?_⟩,(n.mono s).trans ((bt d (bt k o)).mono (by omega))⟩;rw[show q.data.toList= _ from y,show p.data.toList= _ from x];rfl
  ·have m:=hid f;clear f
   go_wp2_with fail;go_ret2;exact⟨.inr ⟨fun h=>m.out h.2,rfl⟩,(n.mono s).trans ((bt d k).mono (by omega))⟩
 ·have l:=hid j;clear j
  go_wp2_with fail;go_ret2;exact⟨.inr ⟨fun h=>l.out h.1,rfl⟩,(n.mono s).trans (d.mono (by omega))⟩
theorem tZ (w:World):
  Calls prog 129 #[] w fun e w'=>∃r,e= .returned (.string r)∧aj r (List.replicate 32 0)∧Below w.heap.size w w':=by
 go_enter func129,ntmps129;go_wp2_with fail
 refine(kw 32 _ (by omega)).mono ?_
 rintro e c ⟨r,rfl,b,a⟩;go_wp2_with fail;go_ret;exact⟨r,rfl,b,a⟩
def jm (w:World) (v:Value) (l:List Rec):Prop:=
 (l=[]∧∃(p:Option Addr) (c:Nat),v= .slice p 0 c)∨
 ∃g o c,v= .slice (some ⟨g,o,none⟩) l.length c∧g<w.heap.size∧∀(j:Nat) (r:Rec),l[j]?=some r→w.rangeAt g (o+j*8) r.cells
theorem F8 {w:World} {g o:Nat} {r:Rec} (h:w.rangeAt g o r.cells):
  w.cell? ⟨g,o,none⟩=some (.int .i64 r.kind)∧w.cell? ⟨g,o+1,none⟩=some (.int .i64 r.epoch)∧w.cell? ⟨g,o+2,none⟩=some (.int .i64 r.time)∧w.cell? ⟨g,o+3,none⟩=some (.int .i64 r.count)∧
  w.cell? ⟨g,o+4,none⟩=some (.int .i64 r.target)∧w.cell? ⟨g,o+5,none⟩=some (.int .i64 r.till)∧w.cell? ⟨g,o+6,none⟩=some (.string r.root)∧w.cell? ⟨g,o+7,none⟩=some (.string r.name):=
 ⟨h 0 _ rfl,h 1 _ rfl,h 2 _ rfl,h 3 _ rfl,h 4 _ rfl,h 5 _ rfl,h 6 _ rfl,h 7 _ rfl⟩
def bq (epoch now:Int) (i:Nat):List Rec→Int×Nat×Int
 |[]=>(epoch,i,0)
 |r::l=>if aL r=true∧r.epoch=epoch∧now≤r.time then bq (if r.kind=1 then epoch+1 else epoch) r.time (i+1) l else(epoch,i,16)
theorem nG (first:Int) (v:Value) (l:List Rec) (w:World) (h:jm w v l) (hl:l.length≤1048576) (Q:∀(j:Nat) (r:Rec),l[j]?=some r→r.name.size≤1048576∧Fits r.epoch) (h0:0≤first) (O:first≤4294967295):
  Calls prog 52 #[.int .i64 first,v] w fun e w'=>e= .returned (.tuple #[.int .i64 (bq first 0 0 l).1, .int .i64 ((bq first 0 0 l).2.1:Nat), .int .i64 (bq first 0 0 l).2.2])∧Below w.heap.size w w':=by
 rcases h with⟨rfl,p,c,rfl⟩|⟨g,o,c,rfl,hg,hc⟩
 ·go_enter func52,ntmps52
  go_wp2_with fail;go_loop [7,20] (fun e i=>e= .int .i64 first∧i= .int .i64 0) (fun _ _=>0)
  case atStart=>exact⟨rfl,rfl⟩
  case round=>
   obtain⟨rfl,rfl⟩:=hrel;go_wp2_with fail;go_ret3;exact⟨rfl,Below.refl _ _⟩
 have S:=hid hc;clear hc;have T:=hid Q;clear Q;obtain⟨n,K⟩:∃n,Hid (n=l.length):=⟨_,rfl⟩;rw[←K.out];rw[←K.out]at hl;go_enter func52,ntmps52;go_wp2_with fail;go_loopw [7,8,20] (fun ve vn M wr=>∃(k:Nat) (ep now:Int),k≤n∧M= .int .i64 k∧ve= .int .i64 ep∧vn= .int .i64 now∧0≤ep∧ep≤4294967295+k∧bq first 0 0 l=bq ep now k (l.drop k)∧Below w.heap.size w wr) (fun _ _ M _=>n-(intOf M).toNat)
 case atStart=>exact⟨0,first,0,by omega,rfl,rfl,rfl,h0,by omega,by simp,Below.refl _ _⟩
 case round=>
  obtain⟨k,ep,now,hk,rfl,rfl,rfl,aA,a0,I,q⟩:=hrel;have F:=hid I;clear I
  by_cases L:k<n
  ·have P:(k:Int)<n:=by omega
   obtain⟨r,E⟩:∃r,l[k]?=some r:=⟨_,List.getElem?_eq_getElem (by rw[←K.out];exact L)⟩;have t:wr.rangeAt g (o+k*8) r.cells:=fun j u hu=>by rw[q.cell (by show g<w.heap.size;exact hg)];exact S.out k r E j u hu
   have A:l.drop k=r::l.drop (k+1):=by
    obtain⟨O,h2⟩:=List.getElem?_eq_some_iff.1 E;rw[←h2,List.drop_eq_getElem_cons O]
   have J:=T.out k r E;have H:=hid J;clear J;have N:=hid A;clear A;obtain⟨f,a,b,s,m,D,root,C⟩:=r;obtain⟨U,V,W,X,Y,Z,c6,c7⟩:=F8 t;clear t E;go_wp2_with fail
   refine(iV ⟨f,a,b,s,m,D,root,C⟩ _ (by have:=H.out.1;simp at this ⊢;omega) H.out.2).mono ?_
   rintro e w2 ⟨rfl,x⟩;have hz:wr.heap.size<w2.heap.size:=by have:=x.size;simp at this;omega
   have q0:w2.cell? ⟨wr.heap.size,0,none⟩=some (.int .i64 f):=by rw[x.cell (by simp)];simp
   have q1:w2.cell? ⟨wr.heap.size,1,none⟩=some (.int .i64 a):=by rw[x.cell (by simp)];simp
   have q2:w2.cell? ⟨wr.heap.size,2,none⟩=some (.int .i64 b):=by rw[x.cell (by simp)];simp
   have d:Below w.heap.size w w2:=(q.alloc q.size _).trans (x.mono (by have:=q.size;simp;omega));clear x U V W X Y Z c6 c7
   by_cases y:aL ⟨f,a,b,s,m,D,root,C⟩=true∧a=ep∧now≤b
   ·obtain⟨z,rfl,R⟩:=y
    have B:bq a now k (l.drop k)=bq (if f=1 then a+1 else a) b (k+1) (l.drop (k+1)):=by
     rw[N.out]
     show(if _ then _ else _)= _
     rw[if_pos ⟨z,rfl,R⟩]
    have G:=hid B;clear B;rw[ko z];clear z
    by_cases z:f=1
    ·subst z
     go_wp2_with fail;go_roundw
     case rel=>exact⟨k+1,a+1,b,by omega,by go_num,rfl,rfl,by omega,by omega,by rw[F.out,G.out];rfl,d⟩
     case measure=>simp[intOf];omega
    ·go_wp2_with fail
     go_roundw
     case rel=>exact⟨k+1,a,b,by omega,by go_num,rfl,rfl,by omega,by omega,by rw[F.out,G.out,if_neg z],d⟩
     case measure=>simp[intOf];omega
   ·have B:bq ep now k (l.drop k)=(ep,k,16):=by
     rw[N.out]
     show(if _ then _ else _)= _
     rw[if_neg y]
    have G:=hid B;clear B
    by_cases z:aL ⟨f,a,b,s,m,D,root,C⟩=true
    ·rw[ko z]
     by_cases k2:a=ep
     ·have R:b<now:=by
       apply Decidable.byContradiction
       intro hh;exact y ⟨z,k2,by omega⟩
      subst k2;clear y z;go_wp2_with fail;go_ret3;exact⟨by rw[F.out,G.out];rfl,d⟩
     ·clear y z
      go_wp2_with fail;go_ret3;exact⟨by rw[F.out,G.out];rfl,d⟩
    ·rw[rE (by simpa using z)]
     clear y z;go_wp2_with fail;go_ret3;exact⟨by rw[F.out,G.out];rfl,d⟩
  ·obtain rfl:k=n:=by omega
   go_wp2_with fail;go_ret3;refine⟨?_,q⟩;rw[F.out,List.drop_of_length_le (by rw[←K.out];omega)]
   rfl
theorem sR (p:Option Addr) (c:Nat) (w:World):
  Calls prog 67 #[.slice p 0 c] w fun e w'=>∃r,e= .returned (.string r)∧aj r (dO [])∧Below w.heap.size w w':=by
 go_enter func67,ntmps67;go_wp2_with fail
 refine(Av _).mono ?_
 rintro e f ⟨b,rfl,k,g,a,m⟩;have h:Hid (mM f b []):=⟨⟨#[]⟩,rfl,g⟩;clear g;go_wp2_with fail;go_loopw [9] (fun i wr=>i= .int .i64 0∧f=wr) (fun i _=>0)
 case atStart=>exact⟨rfl,rfl⟩
 case round=>
  obtain⟨rfl,rfl⟩:=hrel;go_wp2_with fail
  refine(xJ b [] f h.out (by simp)).mono ?_
  rintro e l ⟨r,rfl,j,d⟩;go_wp2_with fail;go_ret;exact⟨r,rfl,j,a.trans (d.mono a.size)⟩
structure ay where
 r:Rec
 tag:ByteArray
def ay.cells (x:ay):List Value:=[.int .i64 x.r.kind, .int .i64 x.r.epoch, .int .i64 x.r.time, .int .i64 x.r.count, .int .i64 x.r.target, .int .i64 x.r.till, .string x.r.root, .string x.r.name, .string x.tag]
def dh (w:World) (v:Value) (l:List ay):Prop:=
 (l=[]∧∃(p:Option Addr) (c:Nat),v= .slice p 0 c)∨
 ∃g o c,v= .slice (some ⟨g,o,none⟩) l.length c∧l.length≤c∧g<w.heap.size∧∀(j:Nat) (x:ay),l[j]?=some x→w.rangeAt g (o+j*9) x.cells
theorem dh.below {w a:World} {v:Value} {l:List ay} (h:dh w v l) {B:Nat} (hb:Below B w a) (k:w.heap.size≤B):dh a v l:=by
 refine h.imp id ?_;rintro⟨g,o,c,b,hc,f,d⟩;exact⟨g,o,c,b,hc,by have:=hb.size;omega,fun j x e i u hu=>by rw[hb.cell (by show g<B;omega)];exact d j x e i u hu⟩
theorem dh.shape {w:World} {v:Value} {l:List ay} (h:dh w v l):∃(p:Option Addr) (c:Nat),v= .slice p l.length c:=by
 rcases h with⟨rfl,p,c,rfl⟩|⟨g,o,c,rfl,_⟩
 ·exact⟨p,c,rfl⟩
 ·exact⟨_,c,rfl⟩
theorem mY {w:World} {g o:Nat} {x:ay} (h:w.rangeAt g o x.cells):
  w.cell? ⟨g,o,none⟩=some (.int .i64 x.r.kind)∧w.cell? ⟨g,o+1,none⟩=some (.int .i64 x.r.epoch)∧w.cell? ⟨g,o+2,none⟩=some (.int .i64 x.r.time)∧w.cell? ⟨g,o+3,none⟩=some (.int .i64 x.r.count)∧
  w.cell? ⟨g,o+4,none⟩=some (.int .i64 x.r.target)∧w.cell? ⟨g,o+5,none⟩=some (.int .i64 x.r.till)∧w.cell? ⟨g,o+6,none⟩=some (.string x.r.root)∧w.cell? ⟨g,o+7,none⟩=some (.string x.r.name)∧w.cell? ⟨g,o+8,none⟩=some (.string x.tag):=
 ⟨h 0 _ rfl,h 1 _ rfl,h 2 _ rfl,h 3 _ rfl,h 4 _ rfl,h 5 _ rfl,h 6 _ rfl,h 7 _ rfl,h 8 _ rfl⟩
open Go.ChangeShapes Go.WideShapes Go.Deep
structure DV (r:Rec):Prop where
 kind:Fits r.kind
 epoch:Fits r.epoch
 time:Fits r.time
 count:Fits r.count
 target:Fits r.target
 till:Fits r.till
section
variable {H:Type} {enc:TypeId×Value→H} {w:World} {base:Nat} {spare:Nat→Bool} {held:Bool}
end
structure zx (w:World) (v:Value) (l:List ay):Prop where
 row:dh w v l
 fits:∀(j:Nat) (x:ay),l[j]?=some x→DV x.r
section
variable {H:Type} {enc:TypeId×Value→H} {w:World} {base:Nat} {spare:Nat→Bool} {held:Bool}
end
theorem zx.below {w a:World} {v:Value} {l:List ay} (h:zx w v l) {B:Nat} (hb:Below B w a) (b:w.heap.size≤B):zx a v l:=⟨h.row.below hb b,h.fits⟩
def eJ (ys:List ay):List Value:=ys.flatMap ay.cells
theorem pg (a:List ay) (y:ay):eJ (a++[y])=eJ a++y.cells:=by simp[eJ]
theorem zy (b:List ay):∀(j:Nat) (y:ay),b[j]?=some y→∀(i:Nat) (u:Value),y.cells[i]?=some u→(eJ b)[j*9+i]?=some u:=by
 induction b with
 |nil=>intro j y h;simp at h
 |cons a r ih=>
  intro j y h i u hu;have c:a.cells.length=9:=rfl
  show(a.cells++eJ r)[_]?= _
  cases j with
  |zero=>
   simp at h;subst h
   have:=(List.getElem?_eq_some_iff.1 hu).1
   rw[List.getElem?_append_left (by omega),Nat.zero_mul,Nat.zero_add];exact hu
  |succ j=>
   rw[List.getElem?_append_right (by omega),c,show(j+1)*9+i-9=j*9+i by omega];exact ih j y (by simpa using h) i u hu
theorem dh.own {w:World} {a n:Nat} {v:Value} {xs:List ay} (h:w.ownsRow a 61 9 v n (eJ xs)) (hn:n=xs.length):dh w v xs:=by
 subst hn
 by_cases c:xs=[]
 ·subst c
  exact .inl ⟨rfl,vO h⟩
 ·obtain⟨g,b,z,rfl,hc,hb,e⟩:=bO h (List.length_pos_iff.2 c)
  refine .inr ⟨g,0,b,rfl,hc,e.lt,fun j x f i u hu=> ?_⟩;refine e.cell ?_;have d:=zy xs j x f i u hu;rw[Nat.zero_add,List.getElem?_append_left (List.getElem?_eq_some_iff.1 d).1];exact d
theorem kq:(prog.info? 61).map (fun i=>(i.zero,i.size,i.bytes))=some (some (.agg (ay.cells ⟨Rec.zero,⟨#[]⟩⟩).toArray),9,96):=by kernel_rfl
theorem ay.cells_one (x:ay):∀v∈x.cells,v.oneCell'=true:=by intro v a;simp[ay.cells]at a;rcases a with rfl|rfl|rfl|rfl|rfl|rfl|rfl|rfl|rfl<;>rfl
theorem F9 (l:List ay):∀v∈eJ l,v.oneCell'=true:=by
 intro v a;obtain⟨x,_,b⟩:=List.mem_flatMap.1 a;exact ay.cells_one x v b
theorem dh.take {w:World} {g o n c:Nat} {l:List ay} (h:dh w (.slice (some ⟨g,o,none⟩) n c) l) (b:g<w.heap.size) (hn:n=l.length) (hc:n≤c) (f:∀(j:Nat) (x:ay),l[j]?=some x→w.rangeAt g (o+j*9) x.cells) {k:Nat} (e:k≤l.length):dh w (.slice (some ⟨g,o,none⟩) k c) (l.take k):=by
 refine .inr ⟨g,o,c,by rw[List.length_take,Nat.min_eq_left e],by rw[List.length_take];omega,b,fun j x a=> ?_⟩
 by_cases d:j<k
 ·rw[List.getElem?_take_of_lt d]at a;exact f j x a
 ·rw[List.getElem?_eq_none (by rw[List.length_take];omega)]at a;simp at a
structure mZ (w:World) (g o n c:Nat) (l:List ay):Prop where
 len:n=l.length
 cap:n≤c
 lt:g<w.heap.size
 at_:∀(j:Nat) (x:ay),l[j]?=some x→w.rangeAt g (o+j*9) x.cells
theorem mZ.below {w a:World} {g o n c:Nat} {l:List ay} (h:mZ w g o n c l) {B:Nat} (hb:Below B w a) (d:w.heap.size≤B):mZ a g o n c l:=
 ⟨h.len,h.cap,by have:=hb.size;have:=h.lt;omega,fun j x b i u hu=>by rw[hb.cell (by show g<B;have:=h.lt;omega)];exact h.at_ j x b i u hu⟩
theorem mZ.take {w:World} {g o n c:Nat} {l:List ay} (h:mZ w g o n c l) {k:Nat} (f:k≤n):dh w (.slice (some ⟨g,o,none⟩) k c) (l.take k):=by
 have d:=h.len;have e:=h.cap;refine .inr ⟨g,o,c,by rw[List.length_take,Nat.min_eq_left (by omega)],by rw[List.length_take];omega,h.lt,fun j x a=> ?_⟩
 by_cases b:j<k
 ·rw[List.getElem?_take_of_lt b]at a;exact h.at_ j x a
 ·rw[List.getElem?_eq_none (by rw[List.length_take];omega)]at a;simp at a
theorem mZ.row {w:World} {g o n c:Nat} {l:List ay} (h:mZ w g o n c l):dh w (.slice (some ⟨g,o,none⟩) n c) l:=by
 have:=h.take (k:=n) (Nat.le_refl _)
 rwa[List.take_of_length_le (by have:=h.len;omega)]at this
open Go.Maps Go.WideMaps
def Ty (w:World) (b:Nat) (t:TypeId):Prop:=∃cs fz,w.heap[b]?=some (.cells cs t fz)
def dy (w:World) (S:List Nat) (T:List TypeId):Prop:=∀x,x∈S→∃t,t∈T∧Ty w x t
theorem ac.ty {w:World} {b:Nat} {cs:List Value} {t:TypeId} (h:ac w b cs t):Ty w b t:=⟨_,_,h⟩
theorem ch {w:World} {a size n:Nat} {e:TypeId} {v:Value} {xs:List Value} (h:w.ownsRow a e size v n xs) {k:Nat} (b:v.ownBlock=some k):Ty w k e:=by
 rcases h.2 with⟨rfl,_⟩|⟨g,cap,cur,rfl,_,hg,_⟩
 ·cases b
 ·injection b with b;subst b;exact⟨_,_,hg⟩
theorem Ty.eq {w:World} {b:Nat} {t t':TypeId} (h:Ty w b t) (k:Ty w b t'):t=t':=by
 obtain⟨_,_,h⟩:=h;obtain⟨_,_,k⟩:=k;rw[h]at k
 injection k with k
 injection k
theorem Ty.notin {w:World} {b:Nat} {t:TypeId} {S:List Nat} {T:List TypeId} (h:Ty w b t) (d:dy w S T) (f:t∉T):b∉S:=fun e=>by
 obtain⟨g,a,c⟩:=d b e;exact f (h.eq c ▸ a)
theorem qw {w:World} {k:TypeId} {R:Value→Option (DataW Unit×List MemPlace)} {b n:Nat} {D:DataW Unit} {S:List Nat} {T:List TypeId} (h:w.ownsMap prog k R b n D) (e:dy w S T):b∉S:=fun f=>by
 obtain⟨i,_,_,_,c⟩:=e b f;obtain⟨g,a,d,_⟩:=h;rw[d]at c
 cases c
theorem eF {w:World} {b c d n:Nat} {U L G:DataW Unit} {S:List Nat} {T:List TypeId} (h:bc w b c d n U L G) (a:dy w S T):∀x,x=b∨x=c∨x=d→x∉S:=by
 rintro x (rfl|rfl|rfl)
 ·exact qw h.u a
 ·exact qw h.l a
 ·exact qw h.g a
theorem aH.tyIn {w:World} {b:Nat} {d:ao} (h:aH w b d):dy w (d.foot b) [78,9,109]:=by
 intro x a;simp only[ao.foot,List.mem_cons,List.mem_append,Option.mem_toList,Option.mem_def]at a
 rcases a with rfl|a|a
 ·exact⟨_,by simp,h.blk.ty⟩
 ·exact⟨_,by simp,ch h.rb a⟩
 ·exact⟨_,by simp,ch h.rc a⟩
theorem dy.one {w:World} {b:Nat} {t:TypeId} (h:Ty w b t):dy w [b] [t]:=by intro x a;simp at a;subst a;exact⟨t,by simp,h⟩
theorem dy.cons {w:World} {b:Nat} {t:TypeId} {S:List Nat} {T:List TypeId} (h:Ty w b t) (k:dy w S T):dy w (b::S) (t::T):=by
 intro x a
 rcases List.mem_cons.1 a with rfl|a
 ·exact⟨t,by simp,h⟩
 ·obtain⟨e,c,d⟩:=k x a
  exact⟨e,List.mem_cons_of_mem _ c,d⟩
theorem dy.own {w:World} {a size n:Nat} {e:TypeId} {v:Value} {xs:List Value} (h:w.ownsRow a e size v n xs):dy w v.ownBlock.toList [e]:=by
 intro x b;exact⟨e,by simp,ch h (by simpa using b)⟩
theorem iY {w:World} {b:Nat} {d:ao} {S:List Nat} {T:List TypeId} (h:aH w b d) (g:dy w S T) (j:∀t,t∈T→t≠78∧t≠9∧t≠109):∀x,x∈d.foot b→x∉S:=by
 intro x k i;obtain⟨t,c,e⟩:=g x i;obtain⟨l,a,f⟩:=h.tyIn x k;obtain rfl:=e.eq f
 have:=j t c
 simp at a
 rcases a with a|a|a
 ·exact this.1 a
 ·exact this.2.1 a
 ·exact this.2.2 a
structure ak where
 key:ByteArray
 data:ByteArray
 last:aN
 used:Int
 vers:List af
 sealed:List ay
 first:Int
 epoch:Int
 now:Int
 clock:Int
 U:DataW Unit
 L:DataW Unit
 G:DataW Unit
 n:Nat
 d:ao
structure ar where
 vb:Nat
 jb:Nat
 sb:Nat
 db:Nat
 xb:Nat
 bb:Nat
 c2:Nat
 cb:Nat
 m1:Nat
 m2:Nat
 m3:Nat
 xv:Value
 sv:Value
 rv:Value
def sS (i:ar) (key data:ByteArray):List Value:=[.pointer (some ⟨i.jb,0,none⟩), .string key, .string data, .pointer (some ⟨i.xb,0,none⟩),i.sv, .pointer (some ⟨i.bb,0,none⟩), .pointer (some ⟨i.cb,0,none⟩),i.rv]
structure am (w:World) (i:ar) (v:ak):Prop where
 vol:ac w i.vb (sS i v.key v.data) 104
 jour:ac w i.jb (bY (.pointer (some ⟨i.sb,0,none⟩)) i.db v.last) 165
 space:ac w i.sb (bS v.last.geo v.used) 242
 disk:aH w i.db v.d
 index:ac w i.xb [.bool true,i.xv] 238
 vers:w.ownsRow 0 130 3 i.xv v.vers.length (au v.vers)
 sealed:w.ownsRow 0 61 9 i.sv v.sealed.length (eJ v.sealed)
 book:ac w i.bb (aX i.c2 v.first v.epoch i.m1 i.m2 i.m3) 193
 bclock:ac w i.c2 [.bool true, .int .i64 v.now] 188
 clock:ac w i.cb [.bool true, .int .i64 v.clock] 188
 maps:bc w i.m1 i.m2 i.m3 v.n v.U v.L v.G
 two:i.c2≠i.cb
 rp:∃p,i.rv= .pointer p
theorem am.below {w w':World} {i:ar} {v:ak} (h:am w i v) (hb:Below w.heap.size w w'):am w' i v:=by
 have t:ai [] w w':=ai.of_below hb (Nat.le_refl _);have a:dy w [] []:=fun x c=>by cases c
 exact⟨t.blk h.vol (h.vol.ty.notin a (by decide)),t.blk h.jour (h.jour.ty.notin a (by decide)),t.blk h.space (h.space.ty.notin a (by decide)),h.disk.turned t (iY h.disk a (by decide)),t.blk h.index (h.index.ty.notin a (by decide)),aJ h.vers t (fun k b=>(ch h.vers b).notin a (by decide)),aJ h.sealed t (fun k b=>(ch h.sealed b).notin a (by decide)),t.blk h.book (h.book.ty.notin a (by decide)),t.blk h.bclock (h.bclock.ty.notin a (by decide)),t.blk h.clock (h.clock.ty.notin a (by decide)),h.maps.turned t (eF h.maps a),h.two,h.rp⟩
def ar.foot (i:ar) (d:ao):List Nat:=[i.vb,i.jb,i.sb,i.xb,i.bb,i.c2,i.cb,i.m1,i.m2,i.m3]++(d.foot i.db++(i.xv.ownBlock.toList++i.sv.ownBlock.toList))
structure aK (w w':World) (i:ar) (v:ak) (i':ar) (v':ak):Prop where
 at':am w' i' v'
 turned:ai (i.foot v.d) w w'
 foot:∀x,x∈i'.foot v'.d→x∈i.foot v.d∨w.heap.size≤x
theorem aK.refl {w:World} {i:ar} {v:ak} (h:am w i v):aK w w i v i v:=⟨h,ai.refl _ _,fun _ hx=> .inl hx⟩
theorem aK.trans {d e f:World} {i c a:ar} {v v' v'':ak} (h:aK d e i v c v') (k:aK e f c v' a v''):aK d f i v a v'':=
 ⟨k.at',h.turned.on k.turned h.foot,fun x g=>(k.foot x g).elim (fun b=>h.foot x b) (fun b=> .inr (Nat.le_trans h.turned.size b))⟩
theorem aK.below {c a d:World} {i b:ar} {v v':ak} (h:aK c a i v b v') (hb:Below a.heap.size a d):aK c d i v b v':=
 ⟨h.at'.below hb,h.turned.trans (ai.of_below hb (Nat.le_refl _)),h.foot⟩
theorem aK.ahead {a c d:World} {i b:ar} {v v':ak} (hb:Below a.heap.size a c) (h:aK c d i v b v'):aK a d i v b v':=
 ⟨h.at',(ai.of_below hb (Nat.le_refl _)).trans h.turned,fun x f=>(h.foot x f).elim .inl (fun e=> .inr (Nat.le_trans hb.size e))⟩
theorem am.disk_to {w g:World} {i:ar} {v:ak} {f:ao} (h:am w i v) (e:bf w g i.db v.d f):aK w g i v i {v with d:=f}:=by
 have t:=e.turned;have a:=h.disk.tyIn;refine⟨⟨t.blk h.vol (h.vol.ty.notin a (by decide)),t.blk h.jour (h.jour.ty.notin a (by decide)),t.blk h.space (h.space.ty.notin a (by decide)),e.at',t.blk h.index (h.index.ty.notin a (by decide)),aJ h.vers t (fun k c=>(ch h.vers c).notin a (by decide)),aJ h.sealed t (fun k c=>(ch h.sealed c).notin a (by decide)),t.blk h.book (h.book.ty.notin a (by decide)),t.blk h.bclock (h.bclock.ty.notin a (by decide)),t.blk h.clock (h.clock.ty.notin a (by decide)),h.maps.turned t (eF h.maps a),h.two,h.rp⟩,t.mono (fun x b=>by simp only[ar.foot,List.mem_append];exact .inr (.inl b)),fun x b=> ?_⟩;simp only[ar.foot,List.mem_append]at b ⊢
 rcases b with b|b|b
 ·exact .inl (.inl b)
 ·exact(e.foot x b).imp (fun h=> .inr (.inl h)) id
 ·exact .inl (.inr (.inr b))
theorem am.jdisk {w c:World} {i:ar} {v:ak} {e:ao} {s:aN} (h:am w i v) (t:ai (i.jb::v.d.foot i.db) w c) (l:s.geo=v.last.geo) (hd:aH c i.db e) (m:ac c i.jb (bY (.pointer (some ⟨i.sb,0,none⟩)) i.db s) 165) (j:∀x,x∈e.foot i.db→x∈v.d.foot i.db∨w.heap.size≤x):aK w c i v i {v with d:=e,last:=s}:=by
 have b:=dy.cons h.jour.ty h.disk.tyIn;have g:ac c i.sb (bS s.geo v.used) 242:=by rw[l];exact t.blk h.space (h.space.ty.notin b (by decide))
 refine⟨⟨t.blk h.vol (h.vol.ty.notin b (by decide)),m,g,hd,t.blk h.index (h.index.ty.notin b (by decide)),aJ h.vers t (fun k f=>(ch h.vers f).notin b (by decide)),aJ h.sealed t (fun k f=>(ch h.sealed f).notin b (by decide)),t.blk h.book (h.book.ty.notin b (by decide)),t.blk h.bclock (h.bclock.ty.notin b (by decide)),t.blk h.clock (h.clock.ty.notin b (by decide)),h.maps.turned t (eF h.maps b),h.two,h.rp⟩,t.mono (fun x a=> ?_),fun x a=> ?_⟩
 ·simp only[ar.foot,List.mem_append]
  rcases List.mem_cons.1 a with rfl|a
  ·exact .inl (by simp)
  ·exact .inr (.inl a)
 ·simp only[ar.foot,List.mem_append]at a ⊢
  rcases a with a|a|a
  ·exact .inl (.inl a)
  ·exact(j x a).imp (fun h=> .inr (.inl h)) id
  ·exact .inl (.inr (.inr a))
theorem am.take {w d:World} {i:ar} {v:ak} {n:Int} (h:am w i v) (t:ai [i.sb] w d) (e:ac d i.sb (bS v.last.geo n) 242):aK w d i v i {v with used:=n}:=by
 have a:=dy.one h.space.ty;exact⟨⟨t.blk h.vol (h.vol.ty.notin a (by decide)),t.blk h.jour (h.jour.ty.notin a (by decide)),e,h.disk.turned t (iY h.disk a (by decide)),t.blk h.index (h.index.ty.notin a (by decide)),aJ h.vers t (fun k c=>(ch h.vers c).notin a (by decide)),aJ h.sealed t (fun k c=>(ch h.sealed c).notin a (by decide)),t.blk h.book (h.book.ty.notin a (by decide)),t.blk h.bclock (h.bclock.ty.notin a (by decide)),t.blk h.clock (h.clock.ty.notin a (by decide)),h.maps.turned t (eF h.maps a),h.two,h.rp⟩,t.mono (fun x b=>by simp at b;subst b;simp[ar.foot]),fun x b=> .inl b⟩
theorem am.idx {w c:World} {i:ar} {v:ak} {xv:Value} {l:List af} (h:am w i v) (t:ai (i.xb::i.xv.ownBlock.toList) w c) (a:ac c i.xb [.bool true,xv] 238) (e:c.ownsRow 0 130 3 xv l.length (au l)) (hn:∀k,xv.ownBlock=some k→i.xv.ownBlock=some k∨w.heap.size≤k):aK w c i v {i with xv:=xv} {v with vers:=l}:=by
 have b:=dy.cons h.index.ty (dy.own h.vers);refine⟨⟨t.blk h.vol (h.vol.ty.notin b (by decide)),t.blk h.jour (h.jour.ty.notin b (by decide)),t.blk h.space (h.space.ty.notin b (by decide)),h.disk.turned t (iY h.disk b (by decide)),a,e,aJ h.sealed t (fun k d=>(ch h.sealed d).notin b (by decide)),t.blk h.book (h.book.ty.notin b (by decide)),t.blk h.bclock (h.bclock.ty.notin b (by decide)),t.blk h.clock (h.clock.ty.notin b (by decide)),h.maps.turned t (eF h.maps b),h.two,h.rp⟩,t.mono (fun x a=> ?_),fun x a=> ?_⟩
 ·rcases List.mem_cons.1 a with rfl|a
  ·simp[ar.foot]
  ·simp only[ar.foot,List.mem_append];exact .inr (.inr (.inl a))
 ·simp only[ar.foot,List.mem_append]at a ⊢
  rcases a with a|a|a|a
  ·exact .inl (.inl a)
  ·exact .inl (.inr (.inl a))
  ·exact(hn x (by simpa using a)).imp (fun h=> .inr (.inr (.inl (by simpa using h)))) id
  ·exact .inl (.inr (.inr (.inr a)))
theorem am.closed {w c:World} {i:ar} {v:ak} {ep now:Int} (h:am w i v) (t:ai [i.bb,i.c2] w c) (hb:ac c i.bb (aX i.c2 v.first ep i.m1 i.m2 i.m3) 193) (hc:ac c i.c2 [.bool true, .int .i64 now] 188):aK w c i v i {v with epoch:=ep,now:=now}:=by
 have a:=dy.cons h.book.ty (dy.one h.bclock.ty)
 have e:ac c i.cb [.bool true, .int .i64 v.clock] 188:=t.blk h.clock (by
  intro b;simp at b
  rcases b with b|b
  ·exact absurd (show 188=193 from(b ▸ h.clock.ty).eq h.book.ty) (by decide)
  ·exact h.two b.symm)
 exact⟨⟨t.blk h.vol (h.vol.ty.notin a (by decide)),t.blk h.jour (h.jour.ty.notin a (by decide)),t.blk h.space (h.space.ty.notin a (by decide)),h.disk.turned t (iY h.disk a (by decide)),t.blk h.index (h.index.ty.notin a (by decide)),aJ h.vers t (fun k f=>(ch h.vers f).notin a (by decide)),aJ h.sealed t (fun k f=>(ch h.sealed f).notin a (by decide)),hb,hc,e,h.maps.turned t (eF h.maps a),h.two,h.rp⟩,t.mono (fun x d=>by simp at d;rcases d with rfl|rfl<;>simp[ar.foot]),fun x d=> .inl d⟩
theorem am.own {w c:World} {i:ar} {v:ak} {key:ByteArray} {sv:Value} {l:List ay} (h:am w i v) (t:ai (i.vb::i.sv.ownBlock.toList) w c) (f:ac c i.vb (sS {i with sv:=sv} key v.data) 104) (e:c.ownsRow 0 61 9 sv l.length (eJ l)) (hn:∀k,sv.ownBlock=some k→i.sv.ownBlock=some k∨w.heap.size≤k):aK w c i v {i with sv:=sv} {v with key:=key,sealed:=l}:=by
 have b:=dy.cons h.vol.ty (dy.own h.sealed);refine⟨⟨f,t.blk h.jour (h.jour.ty.notin b (by decide)),t.blk h.space (h.space.ty.notin b (by decide)),h.disk.turned t (iY h.disk b (by decide)),t.blk h.index (h.index.ty.notin b (by decide)),aJ h.vers t (fun k d=>(ch h.vers d).notin b (by decide)),e,t.blk h.book (h.book.ty.notin b (by decide)),t.blk h.bclock (h.bclock.ty.notin b (by decide)),t.blk h.clock (h.clock.ty.notin b (by decide)),h.maps.turned t (eF h.maps b),h.two,h.rp⟩,t.mono (fun x a=> ?_),fun x a=> ?_⟩
 ·rcases List.mem_cons.1 a with rfl|a
  ·simp[ar.foot]
  ·simp only[ar.foot,List.mem_append];exact .inr (.inr (.inr a))
 ·simp only[ar.foot,List.mem_append]at a ⊢
  rcases a with a|a|a|a
  ·exact .inl (.inl a)
  ·exact .inl (.inr (.inl a))
  ·exact .inl (.inr (.inr (.inl a)))
  ·exact(hn x (by simpa using a)).imp (fun h=> .inr (.inr (.inr (by simpa using h)))) id
def cJ (key data:ByteArray) (gen clock n lbas first ep:Int) (d:ao):ak:=⟨key,data,⟨gen,0,ep,clock,⟨n,lbas,first⟩⟩,0,[],[],first,ep,0,clock, .map [], .map [], .map [],0,d⟩
def oq (vb jb sb db xb bb cb c2 m1 m2 m3:Nat) (ro:Option Addr):ar:=⟨vb,jb,sb,db,xb,bb,c2,cb,m1,m2,m3, .slice none 0 0, .slice none 0 0, .pointer ro⟩
theorem fG.at {w:World} {u s l r k t j g f m p q:Nat} {i:Option Addr} {key b:ByteArray} {e a n c first ep:Int} {d:ao} (h:fG w u s l r k t j g f m p q i key b e a n c first ep d):am w (oq s l r k t j g f m p q i) (cJ key b e a n c first ep d):=
 ⟨h.vol,h.jour,h.space,h.disk,h.index,World.ownsRow_nil w 0 130 3,World.ownsRow_nil w 0 61 9,h.book,h.bclock,h.clock,h.maps,by show f≠g;have:=h.o;omega,i,rfl⟩
theorem fG.foot_ge {w:World} {p c v m u g y j l k q r s:Nat} {t:Option Addr} {key e:ByteArray} {i a n f first ep:Int} {d:ao} (h:fG w p v m u g y j l k q r s t key e i a n f first ep d) (hl:c≤p) (hd:∀x,x∈d.foot g→c≤x):∀x,x∈(oq v m u g y j l k q r s t).foot d→c≤x:=by
 intro x b;have A:=h.o;have z:=h.om;simp only[ar.foot,oq,Value.ownBlock,List.mem_append,List.mem_cons,List.not_mem_nil,or_false,Option.mem_toList,Option.mem_def]at b
 rcases b with(rfl|rfl|rfl|rfl|rfl|rfl|rfl|rfl|rfl|rfl)|b|b|b<;>first|omega|exact hd x b|cases b
structure Calm (d:ao) (n m:Nat):Prop where
 up:d.down=false
 left:d.left=0
 len:d.bs.length=n
 hin:∀(j:Nat) p,d.cs[j]?=some p→0≤p.1∧p.1<d.bs.length
 few:d.cs.length≤m
theorem Calm.mono {d:ao} {n m m':Nat} (h:Calm d n m) (a:m≤m'):Calm d n m':=⟨h.up,h.left,h.len,h.hin,Nat.le_trans h.few a⟩
theorem Calm.put {d:ao} {n m:Nat} (h:Calm d n m) {i:Int} (c:0≤i) (e:i<n) (cv:Value) (s:ByteArray):Calm {d with cv:=cv,cs:=d.cs++[(i,s)]} n (m+1):=by
 refine⟨h.up,h.left,h.len,fun j p a=> ?_,by simp only[List.length_append,List.length_cons,List.length_nil];have:=h.few;omega⟩;simp only at a ⊢
 by_cases b:j<d.cs.length
 ·rw[List.getElem?_append_left b]at a;exact h.hin j p a
 ·rw[List.getElem?_append_right (by omega)]at a
  have:j-d.cs.length=0:=by
   rcases Nat.eq_zero_or_pos (j-d.cs.length)with h2|h2
   ·exact h2
   ·rw[List.getElem?_eq_none (by simp;omega)]at a;cases a
  rw[this]at a;simp at a;subst a;exact⟨c,by simp only;rw[h.len];exact e⟩
theorem Calm.flushed {d:ao} {n m:Nat} (h:Calm d n m):Calm d.flushed n 0:=
 ⟨h.up,h.left,by show(eY d.bs d.cs d.cs.length).length=n;rw[dx];exact h.len,fun j p a=>by simp[ao.flushed]at a,Nat.le_refl _⟩
theorem ua (cs l:List (Int×ByteArray)) (i:Int):∀k,k≤cs.length→eX (cs++l) i k=eX cs i k
 |0,_=>rfl
 |k+1,h=>by
  unfold eX;rw[List.getD,List.getD,List.getElem?_append_left (by omega),ua cs l i k (by omega)]
theorem Ce (cs:List (Int×ByteArray)) (p:Int×ByteArray) (i:Int):eX (cs++[p]) i (cs.length+1)=if p.1=i then some p.2 else eX cs i cs.length:=by
 show(if((cs++[p]).getD cs.length (0,ByteArray.empty)).1=i then some ((cs++[p]).getD cs.length (0,ByteArray.empty)).2 else eX (cs++[p]) i cs.length)= _
 have e:(cs++[p]).getD cs.length (0,ByteArray.empty)=p:=by rw[List.getD,List.getElem?_append_right (Nat.le_refl _)];simp
 rw[e,ua cs [p] i cs.length (Nat.le_refl _)]
theorem fg (d:ao) (cv:Value) (j i:Int) (s:ByteArray):({d with cv:=cv,cs:=d.cs++[(j,s)]}:ao).shown i=if j=i then s else d.shown i:=by
 unfold ao.shown;simp only[List.length_append,List.length_cons,List.length_nil,Nat.zero_add];rw[Ce]
 split
 ·rfl
 ·rfl
theorem xg (b:List ByteArray) (cs:List (Int×ByteArray)) (a:∀(j:Nat) p,cs[j]?=some p→0≤p.1∧p.1<b.length) (i:Int) (f:0≤i):∀k,k≤cs.length→(eY b cs k).getD i.toNat ByteArray.empty=(eX cs i k).getD (b.getD i.toNat ByteArray.empty)
 |0,_=>rfl
 |k+1,h=>by
  have d:cs[k]?=some cs[k]:=List.getElem?_eq_getElem (by omega);have hp:=a k _ d;have ih:=xg b cs a i f k (by omega);unfold eY eX;have e:cs.getD k (0,ByteArray.empty)=cs[k]:=by rw[List.getD,d];rfl
  rw[e]
  by_cases c:cs[k].1=i
  ·rw[if_pos c,List.getD,c,List.getElem?_set_self (by rw[dx];omega)]
   rfl
  ·rw[if_neg c,List.getD,List.getElem?_set_ne (by omega)]
   exact ih
theorem eS {d:ao} {n m:Nat} (h:Calm d n m) (i:Int) (a:0≤i):d.flushed.shown i=d.shown i:=by
 show(eX [] i 0).getD ((eY d.bs d.cs d.cs.length).getD i.toNat ByteArray.empty)= _
 rw[xg d.bs d.cs h.hin i a _ (Nat.le_refl _)]
 rfl
end Go.Proofs.YtadooplpfhdhcaaGreat
