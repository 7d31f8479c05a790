/- Worlds that part in some blocks alone. No program in sight. Rows of the call's own: where they lie behind an append, and what becomes of them where some blocks turn. No program in sight. A disk in memory (chapter 8): what it has, and what becomes of it where other blocks turn. -/
import Derived.Test.YtadooplpfhdhcaaGreatQ2
import Derived.Lib.ReflectliteSwap
import Derived.Test.YtadooplpfhdhcaaGreatQ3
import Derived.Laws.OwnMore
import Derived.Carry
import Derived.OrdersHeld
import Derived.WalkKit
import Derived.ProofKit
import Derived.Deep.MidRow
set_option linter.unusedSimpArgs false
set_option linter.unusedVariables false
set_option maxRecDepth 100000
set_option maxHeartbeats 4000000
namespace Go.Proofs.YtadooplpfhdhcaaGreat
open Go Go.RowKit
open Go.Lib (hid)
open Go.Proofs.Tryz
structure af (S:List Nat) (w w':World):Prop where
 os:w'.os=w.os
 tape:w'.tape=w.tape
 output:w'.output=w.output
 size:w.heap.size≤w'.heap.size
 block:∀k,k<w.heap.size→k∉S→w'.heap[k]?=w.heap[k]?
section
variable {S T:List Nat} {a u v w w':World}
theorem af.refl (S:List Nat) (w:World):af S w w:=⟨rfl,rfl,rfl,Nat.le_refl _,fun _ _ _=>rfl⟩
theorem af.trans (h:af S u v) (k:af S v w):af S u w:=
 ⟨by rw[k.os,h.os],by rw[k.tape,h.tape],by rw[k.output,h.output],Nat.le_trans h.size k.size,fun i a b=>by rw[k.block i (Nat.lt_of_lt_of_le a h.size) b,h.block i a b]⟩
theorem af.mono (h:af S u v) (b:∀x,x∈S→x∈T):af T u v:=
 ⟨h.os,h.tape,h.output,h.size,fun i a hn=>h.block i a (fun e=>hn (b i e))⟩
theorem af.fresh (h:af S u v) (b:∀x,x∈S→x<u.heap.size→x∈T):af T u v:=
 ⟨h.os,h.tape,h.output,h.size,fun i a hn=>h.block i a (fun e=>hn (b i e a))⟩
theorem af.of_below {B:Nat} (h:Below B u v) (a:u.heap.size≤B):af S u v:=
 ⟨h.os,h.tape,h.output,h.size,fun i b _=>h.block i (by omega)⟩
theorem af.setCell (h:af S u v) {b:Nat} (hb:b∈S∨u.heap.size≤b) (i:Nat) (x:Value):af S u (v.setCell ⟨b,i,none⟩ x):=
 ⟨h.os,h.tape,h.output,by have:=h.size;simpa[World.setCell]using this,fun k c hn=>by
   have a:k≠b:=by
    intro e
    rcases hb with hb|hb
    ·exact hn (e ▸ hb)
    ·omega
   rw[Below.heap_setCell _ _ _ _ a];exact h.block k c hn⟩
theorem af.alloc (h:af S u v) (o:Obj):af S u (v.alloc o):=
 ⟨h.os,h.tape,h.output,by have:=h.size;simp;omega,fun k a hn=>by rw[Below.heap_alloc _ _ _ (by have:=h.size;omega)];exact h.block k a hn⟩
theorem af.drewN (h:af S u v) (n:Nat):af S u (v.drewN n):=⟨h.os,h.tape,h.output,h.size,h.block⟩
theorem af.drew (h:af S u v):af S u v.drew:=⟨h.os,h.tape,h.output,h.size,h.block⟩
theorem af.below {B:Nat} (h:af S u v) (hb:Below B a u) (b:∀x,x∈S→B≤x) (c:B≤u.heap.size):Below B a v:=
 hb.trans ⟨h.os,h.tape,h.output,h.size,fun k d=>h.block k (by omega) (fun e=>absurd (b k e) (by omega))⟩
theorem af.blk (h:af S u v) {b:Nat} {c:List Value} {t:TypeId} (hb:ac u b c t) (hn:b∉S):ac v b c t:=by
 have hl:=hb.lt;unfold ac at hb ⊢;rw[h.block b hl hn,hb]
theorem af.cell (h:af S u v) {b i:Nat} (hl:b<u.heap.size) (hn:b∉S):v.cell? ⟨b,i,none⟩=u.cell? ⟨b,i,none⟩:=by
 simp only[World.cell?,h.block b hl hn]
end
section
variable {P:Program} {ops:Array Oper} {rest:List Oper} {o:Oper} {a:Act} {w:World} {Q:Exit→Act→World→Prop}
theorem iI (c:TypeId) (x y:Operand) (b i:Nat) (v:Value) (cs:List Value) (t:TypeId) (hb:ac w b cs t) (e:i<cs.length) (g:(P.info? c).map (·.size)=some 1) (j:v.oneCell'=true)
  (d:o.guard=none) (l:o.op= .store c x y) (p:a.eval x= .pointer (some ⟨b,i,none⟩)) (hy:a.eval y=v)
  (h:∀f,ac f b (cs.set i v) t→de b w f→wpList P ops Q rest (a.put o.dst undef) f):wpList P ops Q (o::rest) a w:=by
 cases hie:P.info? c with
 |none=>simp[hie]at g
 |some ie=>
  have n:ie.size=1:=by simpa[hie]using g
  refine wpList_plain d fun K k=> ?_
  unfold Oper.wp execOp;have m:=Lib.rl_storeVar_one (P:=P) c ie hie n ⟨b,i,none⟩ v _ j w (hb.cell (List.getElem?_eq_getElem e)) (hb.free i);simp only[l,p,hy,Instr.storeAt,Instr.sureAddr,Sem.run_bind,Sem.run_pure,Result.andThen_ok,m];exact k _ _ (h _ (hb.set i v) ((de.refl b w).setCell i v))
end
section
variable {P:Program} {ops:Array Oper} {rest:List Oper} {o:Oper} {a:Act} {w:World} {Q:Exit→Act→World→Prop}
theorem EL {b:Nat} {c:List Value} {t:TypeId} (h:ac w b c t) {off n:Nat} (hn:off+n≤c.length):w.there b off n:=fun j a=>
 ⟨by rw[h.cell?,List.getElem?_eq_getElem (by omega)];simp,h.free _⟩
theorem lA (e:TypeId) (x y:Operand) (b off:Nat) (c:List Value) (cs:List Value) (t:TypeId) (hb:ac w b cs t) (hl:off+c.length≤cs.length)
  (i:(P.info? e).map (·.size)=some c.length) (g:∀v∈c,v.oneCell'=true)
  (d:o.guard=none) (j:o.op= .store e x y) (k:a.eval x= .pointer (some ⟨b,off,none⟩)) (hy:a.eval y= .agg c.toArray)
  (h:∀f,ac f b (cs.take off++c++cs.drop (off+c.length)) t→de b w f→wpList P ops Q rest (a.put o.dst undef) f):wpList P ops Q (o::rest) a w:=
 wpList_store_mid d e x y j b off c.toArray k hy (EL hb (by simpa using hl)) (by simpa using i) (all_oneCell_toArray g) (by simpa using h _ (hb.setCells c off hl) ((de.refl b w).setCells c off))
end
section
variable {P:Program} {ops:Array Oper} {rest:List Oper} {o:Oper} {a:Act} {w:World} {Q:Exit→Act→World→Prop}
end
def gI (S:List Nat) (w:World) (v:Value) (xs:List ByteArray):Prop:=
 (xs=[]∧∃(p:Option Addr) (c:Nat),v= .slice p 0 c)∨
 ∃g o c,v= .slice (some ⟨g,o,none⟩) xs.length c∧g<w.heap.size∧g∉S∧∀(j:Nat) (x:ByteArray),xs[j]?=some x→w.cell? ⟨g,o+j,none⟩=some (.string x)
theorem gI.turned {S:List Nat} {w b:World} {v:Value} {xs:List ByteArray} (h:gI S w v xs) (a:af S w b):gI S b v xs:=by
 rcases h with h1|⟨g,o,c,h1,h2,h3,h4⟩
 ·exact .inl h1
 ·exact .inr ⟨g,o,c,h1,Nat.lt_of_lt_of_le h2 a.size,h3,fun j x d=>by rw[a.cell h2 h3];exact h4 j x d⟩
theorem gI.nil (S:List Nat) (w:World):gI S w (.slice none 0 0) []:= .inl ⟨rfl,_,_,rfl⟩
theorem gI.shape {S:List Nat} {w:World} {v:Value} {xs:List ByteArray} (h:gI S w v xs):∃(p:Option Addr) (c:Nat),v= .slice p xs.length c:=by
 rcases h with⟨h1,p,c,h2⟩|⟨g,o,c,h1,_⟩
 ·subst h1;exact⟨p,c,h2⟩
 ·exact⟨_,_,h1⟩
theorem gI.sub {S T:List Nat} {w:World} {v:Value} {xs:List ByteArray} (h:gI S w v xs) (b:∀x,x∈T→x∈S):gI T w v xs:=
 h.imp id fun⟨g,o,c,h1,h2,h3,h4⟩=>⟨g,o,c,h1,h2,fun a=>h3 (b g a),h4⟩
def Ab (w:World) (v:Value) (xs:List ByteArray):Prop:=gI [] w v xs
theorem Ab.below {w a:World} {v:Value} {xs:List ByteArray} (h:Ab w v xs) {B:Nat} (hb:Below B w a) (b:w.heap.size≤B):Ab a v xs:=
 gI.turned h (af.of_below hb b)
theorem Ab.shape {w:World} {v:Value} {xs:List ByteArray} (h:Ab w v xs):∃(p:Option Addr) (c:Nat),v= .slice p xs.length c:=gI.shape h
theorem de.turned {b:Nat} {S:List Nat} {w w':World} (h:de b w w') (hb:b∈S):af S w w':=
 ⟨h.os,h.tape,h.output,Nat.le_of_eq h.size.symm,fun k _ hn=>h.block k (fun e=>hn (e ▸ hb))⟩
section
variable {S:List Nat} {w w':World} {base:Nat} {e:TypeId} {size:Nat} {v:Value} {n:Nat} {xs:List Value}
theorem af.of_grown {a:Option Nat} (h:w.grownBy w' a) (b:∀k,a=some k→k∈S):af S w w':=
 ⟨h.os,h.tape,h.output,h.size,fun k d hn=>h.block k d (fun c=>hn (b k c.symm))⟩
theorem af.on {T:List Nat} {u v:World} (h:af S u v) (k:af T v w) (b:∀x,x∈T→x∈S∨u.heap.size≤x):af S u w:=
 ⟨by rw[k.os,h.os],by rw[k.tape,h.tape],by rw[k.output,h.output],Nat.le_trans h.size k.size,fun i a hn=>by
  rw[k.block i (Nat.lt_of_lt_of_le a h.size) (fun c=>(b i c).elim hn (fun d=>by omega)),h.block i a hn]⟩
theorem ay (h:w.ownsRow base e size v n xs) (t:af S w w') (hn:∀k,v.ownBlock=some k→k∉S):w'.ownsRow base e size v n xs:=by
 refine⟨h.1,h.2.imp id ?_⟩;rintro⟨g,a,b,rfl,d,c,f⟩;exact⟨g,a,b,rfl,d,by rw[t.block g (Array.getElem?_eq_some_iff.1 c).1 (hn g rfl)];exact c,f⟩
def dW (u:World) (a b:Option Nat):Prop:=b=a∨∀k,b=some k→u.heap.size≤k
theorem Ac {P:Program} (t y:TypeId) (i:TypeInfo) (z:Value) (o:Nat) (G:P.underlying t=some (.slice e)) (B:P.info? e=some i) (J:i.zero=some z)
  (r:i.size=size) (A:i.bytes=o) (H:z.cells.size=size) (F:0<size) (l:w.ownsRow base e size v n xs)
  (a:Addr) (m c:Nat) (b:List Value) (hl:b.length=m*size) (f:∀j u,b[j]?=some u→w.cell? (a.add j)=some u) (I:∀u∈b,u.oneCell'=true)
  (s:n+m≤maxLen) (h:(n+m)*o≤140737488355328) (K:Value) (E:(Builtin.append_ #[t,t] y #[v, .slice (some a) m c]).run P w= .ok K w'):dW w v.ownBlock K.ownBlock:=by
 subst r;subst A
 rcases l.2 with⟨rfl,rfl⟩|⟨g,cap,cur,rfl,hbg,hg,hnc,hcm,hcs,htake⟩
 ·have L:xs=[]:=List.eq_nil_of_length_eq_zero (by simpa using l.1)
  subst L;obtain⟨M,N,d,D,_⟩:=run_append_own (P:=P) w w.heap.size t y e i z _ _ G B J rfl rfl H F (.slice none 0 0) 0 [] (World.ownsRow_nil w _ e _) a m c b hl f I s h (Nat.le_refl _);rw[E]at d
  injection d with e1 e2
  subst e1;exact .inr fun k C=>(D.lt k C).1
 ·by_cases p:n+m≤cap
  ·have x:n*i.size+b.length≤cur.size:=by rw[hl,hcs,←Nat.add_mul];exact Nat.mul_le_mul_right _ p
   have d:=run_append_room (P:=P) w t y e i G B g n cap cur hg a m c b hl f I p x;rw[E]at d
   injection d with e1 e2
   subst e1;exact .inl rfl
  ·have q:∀j u,xs[j]?=some u→w.cell? ((⟨g,0,none⟩:Addr).add j)=some u:=l.cells (g:=g) rfl
   have d:=run_append_grow (P:=P) w t y e i z G B J ⟨g,0,none⟩ n cap xs l.1 q a m c b hl f (by omega) (by simp only[maxLen]at s;omega) (growslice_fits (by omega) h);rw[E]at d
   injection d with e1 e2
   subst e1;exact .inr fun k C=>by simp[Value.ownBlock]at C;omega
theorem cM {P:Program} {o:Oper} {a:Act} {K:Act→World→Prop} {Q:Exit→Act→World→Prop} (s x:Operand) (t:TypeId)
  (N:o.op= .call {callee:= .builtin .append,args:=#[s,x],argTypes:=#[t,t]})
  (i:TypeInfo) (z:Value) (d:Nat) (H:P.underlying t=some (.slice e)) (F:P.info? e=some i) (I:i.zero=some z)
  (k:i.size=size) (y:i.bytes=d) (B:z.cells.size=size) (A:0<size)
  (O:a.eval s=v) (l:w.ownsRow base e size v n xs)
  (D:Addr) (m c:Nat) (b:List Value) (R:a.eval x= .slice (some D) m c) (hl:b.length=m*size) (g:∀j u,b[j]?=some u→w.cell? (D.add j)=some u) (E:∀u∈b,u.oneCell'=true)
  (r:n+m≤maxLen) (f:(n+m)*d≤140737488355328) (p:base≤w.heap.size)
  (h:∀q C,C.ownsRow base e size q (n+m) (xs++b)→w.grownBy C v.ownBlock→dW w v.ownBlock q.ownBlock→K (a.put o.dst q) C):o.wp P a w K Q:=by
 obtain⟨q,C,G,J,L,_⟩:=run_append_own (P:=P) w base t o.type e i z size d H F I k y B A v n xs l D m c b hl g E r f p;have M:=Ac t o.type i z d H F I k y B A l D m c b hl g E r f q G;unfold Oper.wp execOp;simp only[N,resolve,invoke,builtin,Sem.run_bind,Sem.run_pure,Result.andThen_ok,List.map_toArray,List.map_cons,List.map_nil,O,R,G];exact h q C J L M
theorem ii {P:Program} {q:Array Oper} {g:List Oper} {o:Oper} {a:Act} {Q:Exit→Act→World→Prop} (s x:Operand) (t:TypeId) (E:Region.wanted o (yielded q a.tmps)=true)
  (O:o.op= .call {callee:= .builtin .append,args:=#[s,x],argTypes:=#[t,t]})
  (i:TypeInfo) (z:Value) (d:Nat) (S:P.underlying t=some (.slice e)) (N:P.info? e=some i) (U:i.zero=some z)
  (p:i.size=size) (D:i.bytes=d) (G:z.cells.size=size) (F:0<size)
  (R:a.eval s=v) (r:w.ownsRow base e size v n xs)
  (B:Addr) (m c:Nat) (b:List Value) (T:a.eval x= .slice (some B) m c) (hl:b.length=m*size) (l:∀j u,b[j]?=some u→w.cell? (B.add j)=some u) (H:∀u∈b,u.oneCell'=true)
  (C:n+m≤maxLen) (f:(n+m)*d≤140737488355328) (k:base≤w.heap.size)
  (h:∀y A,A.ownsRow base e size y (n+m) (xs++b)→w.grownBy A v.ownBlock→dW w v.ownBlock y.ownBlock→wpList P q Q g (a.put o.dst y) A):wpList P q Q (o::g) a w:=
 wpList_step fun K M=>by
  simp only[E,if_true];exact cM s x t O i z d S N U p D G F R r B m c b T hl l H C f k fun y A I J L=>M _ _ (h y A I J L)
theorem vC {P:Program} {q:Array Oper} {o:Oper} {a:Act} {K:Act→World→Prop} {Q:Exit→Act→World→Prop} {E:Prop}
  (B:o.guard=none) (s x:Operand) (t:TypeId)
  (J:o.op= .call {callee:= .builtin .append,args:=#[s,x],argTypes:=#[t,t]})
  (i:TypeInfo) (z:Value) (d:Nat) (M:P.underlying t=some (.slice e)) (I:P.info? e=some i) (R:i.zero=some z)
  (l:i.size=size) (A:i.bytes=d) (D:z.cells.size=size) (C:0<size)
  (L:a.eval s=v) (p:w.ownsRow base e size v n xs)
  (r:Addr) (m c:Nat) (b:List Value) (O:a.eval x= .slice (some r) m c) (hl:b.length=m*size) (k:∀j u,b[j]?=some u→w.cell? (r.add j)=some u) (H:∀u∈b,u.oneCell'=true)
  (y:n+m≤maxLen) (f:(n+m)*d≤140737488355328) (g:base≤w.heap.size)
  (h:∀F G,G.ownsRow base e size F (n+m) (xs++b)→w.grownBy G v.ownBlock→dW w v.ownBlock F.ownBlock→K (a.put o.dst F) G):
  if Region.wanted o (yielded q a.tmps)=true then Oper.wp P o a w K Q else E:=by
 have N:Region.wanted o (yielded q a.tmps)=true:=by simp[Region.wanted,B]
 rw[if_pos N];exact cM s x t J i z d M I R l A D C L p r m c b O hl k H y f g h
end
structure am where
 bv:Value
 bs:List ByteArray
 cv:Value
 cs:List (Int×ByteArray)
 down:Bool
 left:Int
def am.cells (d:am):List Value:=[d.bv,d.cv, .bool true, .bool d.down, .int .i64 d.left]
def putCells (p:Int×ByteArray):List Value:=[.int .i64 p.1, .string p.2]
def fC (l:List (Int×ByteArray)):List Value:=l.flatMap putCells
theorem Ad (l:List (Int×ByteArray)):(fC l).length=l.length*2:=by
 induction l with
 |nil=>rfl
 |cons a r ih=>show(putCells a++fC r).length= _;rw[List.length_append,ih,List.length_cons];show 2+_= _;omega
theorem EM (l:List (Int×ByteArray)) (p:Int×ByteArray):fC (l++[p])=fC l++putCells p:=by simp[fC]
theorem IY (l:List (Int×ByteArray)):∀(j:Nat) (p:Int×ByteArray),l[j]?=some p→(fC l)[j*2]?=some (.int .i64 p.1)∧(fC l)[j*2+1]?=some (.string p.2):=by
 induction l with
 |nil=>intro j p h;simp at h
 |cons a r ih=>
  intro j p h
  cases j with
  |zero=>simp at h;subst h;exact⟨rfl,rfl⟩
  |succ j=>
   have:=ih j p (by simpa using h)
   show(putCells a++fC r)[(j+1)*2]?= _∧(putCells a++fC r)[(j+1)*2+1]?= _
   rw[List.getElem?_append_right (by show 2≤_;omega),List.getElem?_append_right (by show 2≤_;omega)];rw[show(j+1)*2-(putCells a).length=j*2 by show(j+1)*2-2= _;omega,show(j+1)*2+1-(putCells a).length=j*2+1 by show(j+1)*2+1-2= _;omega];exact this
def am.foot (d:am) (db:Nat):List Nat:=db::(d.bv.ownBlock.toList++d.cv.ownBlock.toList)
structure aC (w:World) (db:Nat) (d:am):Prop where
 blk:ac w db d.cells 78
 rb:w.ownsRow 0 9 1 d.bv d.bs.length (d.bs.map .string)
 rc:w.ownsRow 0 109 2 d.cv d.cs.length (fC d.cs)
 n1:d.bv.ownBlock≠some db
 n2:d.cv.ownBlock≠some db
 n3:∀g,d.bv.ownBlock=some g→d.cv.ownBlock≠some g
theorem am.mem1 {d:am} {db k:Nat} (h:d.bv.ownBlock=some k):k∈d.foot db:=by simp[am.foot,h]
theorem am.mem2 {d:am} {db k:Nat} (h:d.cv.ownBlock=some k):k∈d.foot db:=by simp[am.foot,h]
theorem aC.turned {S:List Nat} {w e:World} {a:Nat} {d:am} (h:aC w a d) (t:af S w e) (b:∀x,x∈d.foot a→x∉S):aC e a d:=
 ⟨t.blk h.blk (b a (by simp[am.foot])),ay h.rb t (fun k c=>b k (am.mem1 c)),ay h.rc t (fun k c=>b k (am.mem2 c)),h.n1,h.n2,h.n3⟩
theorem aC.below {w b:World} {a:Nat} {d:am} (h:aC w a d) (hb:Below w.heap.size w b):aC b a d:=
 h.turned (S:=[]) (af.of_below hb (Nat.le_refl _)) (by simp)
theorem aC.lt {w:World} {b:Nat} {d:am} (h:aC w b d):∀x,x∈d.foot b→x<w.heap.size:=by
 intro x a;simp only[am.foot,List.mem_cons,List.mem_append,Option.mem_toList,Option.mem_def]at a
 rcases a with rfl|a|a
 ·exact h.blk.lt
 ·exact(h.rb.lt x a).2
 ·exact(h.rc.lt x a).2
def eS (cs:List (Int×ByteArray)) (i:Int):Nat→Option ByteArray
 |0=>none
 |k+1=>if(cs.getD k (0,ByteArray.empty)).1=i then some (cs.getD k (0,ByteArray.empty)).2 else eS cs i k
def am.shown (d:am) (i:Int):ByteArray:=(eS d.cs i d.cs.length).getD (d.bs.getD i.toNat ByteArray.empty)
def am.step (d:am):am:=if 0<d.left then{d with left:=d.left-1,down:=d.left-1==0} else d
structure bg (w w':World) (db:Nat) (d d':am):Prop where
 at':aC w' db d'
 turned:af (d.foot db) w w'
 foot:∀x,x∈d'.foot db→x∈d.foot db∨w.heap.size≤x
theorem bg.refl {w:World} {a:Nat} {d:am} (h:aC w a d):bg w w a d d:=⟨h,af.refl _ _,fun _ hx=> .inl hx⟩
theorem bg.trans {u v w:World} {a:Nat} {d c d'':am} (h:bg u v a d c) (k:bg v w a c d''):bg u w a d d'':=
 ⟨k.at',h.turned.on k.turned h.foot,fun x e=>(k.foot x e).elim (fun b=>h.foot x b) (fun b=> .inr (Nat.le_trans h.turned.size b))⟩
theorem bg.below {u v w:World} {a:Nat} {d d':am} (h:bg u v a d d') (hb:Below v.heap.size v w):bg u w a d d':=
 ⟨h.at'.below hb,h.turned.trans (af.of_below hb (Nat.le_refl _)),h.foot⟩
theorem bg.ahead {u v w:World} {a:Nat} {d d':am} (hb:Below u.heap.size u v) (h:bg v w a d d'):bg u w a d d':=
 ⟨h.at',(af.of_below hb (Nat.le_refl _)).trans h.turned,fun x c=>(h.foot x c).elim .inl (fun b=> .inr (Nat.le_trans hb.size b))⟩
theorem jr (a:Nat) (d:am) (w:World) (h:aC w a d):
  Calls prog 43 #[.pointer (some ⟨a,0,none⟩)] w fun e w'=>e= .returned (.bool true)∧w=w':=by
 have b:=h.blk.cell (i:=2) rfl;go_enter func43,ntmps43;go_wp2_with fail;go_ret;exact⟨rfl,rfl⟩
theorem qG (a:Nat) (d:am) (w:World) (h:aC w a d):
  Calls prog 189 #[.pointer (some ⟨a,0,none⟩)] w fun e w'=>e= .returned (.int .i64 (if d.down then 14 else 0))∧w=w':=by
 have b:=h.blk.cell (i:=3) rfl;obtain⟨q,c⟩:∃q,d.down=q:=⟨_,rfl⟩;rw[c]at b ⊢
 cases q with
 |false=>
  go_enter func189,ntmps189;go_wp2_with fail
  refine(jr a d _ h).mono ?_
  rintro e w' ⟨rfl,rfl⟩;go_wp2_with fail;go_ret;exact⟨rfl,rfl⟩
 |true=>
  go_enter func189,ntmps189;go_wp2_with fail
  refine(jr a d _ h).mono ?_
  rintro e w' ⟨rfl,rfl⟩;go_wp2_with fail;go_ret;exact⟨rfl,rfl⟩
theorem sN {w:World} {a:Nat} {d:am} (h:aC w a d):∃(p:Option Addr) (c:Nat),d.bv= .slice p d.bs.length c:=az h.rb
theorem sO {w:World} {a:Nat} {d:am} (h:aC w a d):∃(p:Option Addr) (c:Nat),d.cv= .slice p d.cs.length c:=az h.rc
theorem Ae (b:Nat) (d:am) (w:World) (h:aC w b d) (i:Int):
  Calls prog 251 #[.pointer (some ⟨b,0,none⟩), .int .i64 i] w fun e w'=>e= .returned (.bool (decide (0≤i)&&decide (i<d.bs.length)))∧w=w':=by
 have j:=h.blk.cell (i:=0) rfl;obtain⟨p,c,l⟩:=sN h;rw[l]at j
 by_cases f:0≤i
 ·by_cases g:i<(d.bs.length:Int)
  ·have a:=g
   go_enter func251,ntmps251;go_wp2_with fail;go_ret;exact⟨by simp[f,a],rfl⟩
  ·have a:(d.bs.length:Int)≤i:=by omega
   go_enter func251,ntmps251;go_wp2_with fail;go_ret;exact⟨by simp[f,g],rfl⟩
 ·have a:i<0:=by omega
  go_enter func251,ntmps251;go_wp2_with fail;go_ret
  exact⟨by have k:¬(0≤i):=by omega
           simp[k],rfl⟩
theorem oV (a:Nat) (d:am) (w:World) (h:aC w a d):
  Calls prog 93 #[.pointer (some ⟨a,0,none⟩)] w fun e w'=>e= .returned (.int .i64 d.bs.length)∧w=w':=by
 have b:=h.blk.cell (i:=0) rfl;obtain⟨p,c,f⟩:=sN h;rw[f]at b;go_enter func93,ntmps93;go_wp2_with fail
 refine(jr a d _ h).mono ?_
 rintro e w' ⟨rfl,rfl⟩;go_wp2_with fail;go_ret;exact⟨rfl,rfl⟩
theorem uD (a:Nat) (d:am) (w:World) (h:aC w a d):
  Calls prog 94 #[.pointer (some ⟨a,0,none⟩)] w fun e w'=>e= .returned (.bool d.down)∧w=w':=by
 have b:=h.blk.cell (i:=3) rfl;go_enter func94,ntmps94;go_wp2_with fail
 refine(jr a d _ h).mono ?_
 rintro e w' ⟨rfl,rfl⟩;go_wp2_with fail;go_ret;exact⟨rfl,rfl⟩
def am.placeE (d:am) (i:Int) (n:Nat):Int:=if(decide (0≤i)&&decide (i<d.bs.length))=true then(if n=4096 then 0 else 2)else 4
theorem Cf (f:Nat) (d:am) (w:World) (h:aC w f d) (i:Int) (s:ByteArray):
  Calls prog 252 #[.pointer (some ⟨f,0,none⟩), .int .i64 i, .string s] w fun e w'=>e= .returned (.int .i64 (d.placeE i s.size))∧w=w':=by
 go_enter func252,ntmps252;go_wp2_with fail
 refine(Ae f d _ h i).mono ?_
 rintro e w' ⟨rfl,rfl⟩;obtain⟨q,g⟩:∃q,(decide (0≤i)&&decide (i<(d.bs.length:Int)))=q:=⟨_,rfl⟩;have c:=hid g;rw[g];clear g
 cases q with
 |false=>
  have a:=hid (show d.placeE i s.size=4 by unfold am.placeE;rw[c.out];simp);go_wp2_with fail;go_ret;exact⟨by rw[a.out];rfl,rfl⟩
 |true=>
  by_cases b:s.size=4096
  ·have j:(s.size:Int)=4096:=by omega
   have a:=hid (show d.placeE i s.size=0 by unfold am.placeE;rw[c.out];simp[b]);clear b;go_wp2_with fail;go_ret;exact⟨by rw[a.out];rfl,rfl⟩
  ·have j:(s.size:Int)≠4096:=by omega
   have a:=hid (show d.placeE i s.size=2 by unfold am.placeE;rw[c.out];simp[b]);clear b;go_wp2_with fail;go_ret;exact⟨by rw[a.out];rfl,rfl⟩
theorem Af:(prog.info? 109).map (fun i=>(i.zero,i.size,i.bytes))=some (some (.agg #[.int .i64 0, .string ⟨#[]⟩]),2,24):=by kernel_rfl
theorem sP:(prog.info? 9).map (fun i=>(i.zero,i.size,i.bytes))=some (some (.string ⟨#[]⟩),1,16):=by kernel_rfl
theorem GT:(prog.info? 46).map (·.size)=some 1:=by kernel_rfl
theorem IZ {w:World} {a:Nat} {e:TypeId} {size:Nat} {v:Value} {n:Nat} {xs:List Value} (h:w.ownsRow a e size v n xs):v.oneCell'=true:=by obtain⟨d,c,b⟩:=az h;rw[b];rfl
theorem uE (a:Nat) (d:am) (w:World) (h:aC w a d) (hd:d.down=false) (hl:d.left=0):
  Calls prog 190 #[.pointer (some ⟨a,0,none⟩)] w fun e w'=>e= .returned (.bool false)∧w=w':=by
 have b:=h.blk.cell (i:=3) rfl;have c:=h.blk.cell (i:=4) rfl;rw[hd]at b;rw[hl]at c;go_enter func190,ntmps190;go_wp2_with fail;go_ret;exact⟨rfl,rfl⟩
theorem aC.only {w w':World} {a:Nat} {d d':am} (h:aC w a d) (o:de a w w') (hb:ac w' a d'.cells 78) (c:d'.bv=d.bv) (g:d'.bs=d.bs) (e:d'.cv=d.cv) (i:d'.cs=d.cs):aC w' a d':=by
 have t:af [a] w w':=o.turned (by simp);refine⟨hb, ?_, ?_,by rw[c];exact h.n1,by rw[e];exact h.n2,by rw[c,e];exact h.n3⟩
 ·rw[c,g];exact ay h.rb t (fun k f b=>h.n1 (by simp at b;rw[f,b]))
 ·rw[e,i];exact ay h.rc t (fun k f b=>h.n2 (by simp at b;rw[f,b]))
theorem aC.cached {u w w':World} {db:Nat} {d:am} {v:Value} {l:List (Int×ByteArray)} (h:aC u db d) (p:w.ownsRow 0 109 2 v l.length (fC l)) (n:u.grownBy w d.cv.ownBlock) (hn:dW u d.cv.ownBlock v.ownBlock)
  (o:de db w w') (hb:ac w' db ({d with cv:=v,cs:=l}:am).cells 78):bg u w' db d {d with cv:=v,cs:=l}:=by
 have q:af (d.foot db) u w:=af.of_grown n (fun k b=>am.mem2 b);have j:af [db] w w':=o.turned (by simp)
 have c:v.ownBlock≠some db:=by
  intro m
  rcases hn with h1|h1
  ·exact h.n2 (by rw[←h1];exact m)
  ·have:=h1 db m;have:=h.blk.lt;omega
 refine⟨⟨hb, ?_, ?_,h.n1,c, ?_⟩, ?_, ?_⟩
 ·refine ay (S:=[db]) ?_ j (fun k b e=>h.n1 (by simp at e;rw[b,e]))
  exact ay (S:=d.cv.ownBlock.toList) h.rb (af.of_grown n (fun k b=>by simp[b])) (fun k b e=>h.n3 k b (by simpa using e))
 ·exact ay p j (fun k b e=>c (by simp at e;rw[b,e]))
 ·intro g f i
  rcases hn with h1|h1
  ·exact h.n3 g f (by rw[←h1];exact i)
  ·have:=h1 g i;have:=(h.rb.lt g f).2;omega
 ·exact q.trans (j.mono (fun x a=>by simp at a;subst a;simp[am.foot]))
 ·intro x a
  simp only[am.foot,List.mem_cons,List.mem_append,Option.mem_toList,Option.mem_def]at a ⊢
  rcases a with a|a|a
  ·exact .inl (.inl a)
  ·exact .inl (.inr (.inl a))
  ·rcases hn with h1|h1
   ·exact .inl (.inr (.inr (by rw[←h1];exact a)))
   ·exact .inr (h1 x a)
theorem Ci (k:Nat) (d:am) (w:World) (h:aC w k d) (hd:d.down=false) (hl:d.left=0) (hc:d.cs.length<4096) (i:Int) (s:ByteArray) (C:0≤i) (q:i<d.bs.length) (D:s.size=4096):
  Calls prog 188 #[.pointer (some ⟨k,0,none⟩), .int .i64 i, .string s] w fun e u=>e= .returned (.int .i64 0)∧∃x,bg w u k d {d with cv:=x,cs:=d.cs++[(i,s)]}:=by
 obtain⟨Q,R,y,z,A⟩:=info_parts Af;have b:=hid h;have K:=hid (show d.placeE i s.size=0 by unfold am.placeE;simp[C,q,D]);have J:=hid hc;clear h C q D hc;go_enter func188,ntmps188;go_wp2_with fail
 refine(qG k d _ b.out).mono ?_
 rintro e u ⟨rfl,rfl⟩;rw[hd];go_wp2_with fail
 refine(Cf k d _ b.out i s).mono ?_
 rintro e u ⟨rfl,rfl⟩;rw[K.out];have L:=b.blk.cell (i:=1) rfl;obtain⟨p,c,m⟩:=sO b.out;have f:=hid m;rw[m]at L;have P:(d.cs.length:Int)<4096:=by have:=J.out;omega
 clear m;have n:1<d.cells.length:=by show 1<5;decide
 go_wp2_with fail
 refine(uE k d _ b.out hd hl).mono ?_
 rintro e u ⟨rfl,rfl⟩;have g:=b.rc;rw[f.out]at g
 go_wp2_with (first
  |((with_reducible refine bi 46 109 1 ?parts [.int .i64 i, .string s] (.agg #[.int .i64 0, .string ⟨#[]⟩]) 2 24 (some 39) underlying46 Af (by omega) (by omega) ?hgd ?ho ?hd ?hf ?_);(case hgd|ho|hd=>rfl);(case hf=>kernel_rfl);(intro M T B G t W);(have r:=own_below (t.mono B) g))
  |(at_builtin;refine ii _ _ 46 rfl rfl Q (.agg #[.int .i64 0, .string ⟨#[]⟩]) 24 underlying46 R y z A rfl (by decide) rfl r ⟨M,0,none⟩ 1 1 [.int .i64 i, .string s] rfl rfl (bI G) (by intro v E;simp at E;rcases E with rfl|rfl<;>rfl) (by unfold maxLen;omega) (by omega) (Nat.zero_le _) ?_;intro F U j a o;have H:=(b.blk.below t (by have:=b.blk.lt;omega)).grown a (by rw[←f.out];exact fun O=>b.n2 O.symm))
  |((with_reducible refine iI 46 (.tmp 43) (.tmp 40) k 1 F d.cells 78 H n GT (IZ j) ?hgd ?ho ?hx ?hy ?_);(case hgd|ho|hx|hy=>rfl);(intro V I S))
  |fail)
 go_ret;refine⟨rfl,F, ?_⟩;have N:=b.below (t.mono B);refine bg.ahead (t.mono B) (N.cached (l:=d.cs++[(i,s)]) (by rw[List.length_append,EM];exact j) (by rw[f.out];exact a) (by rw[f.out];exact o) S I)
theorem aC.block {w:World} {e:Nat} {d:am} (h:aC w e d) {i:Nat} (b:i<d.bs.length):∃g c,d.bv= .slice (some ⟨g,0,none⟩) d.bs.length c∧w.cell? ⟨g,i,none⟩=some (.string (d.bs.getD i ByteArray.empty)):=by
 obtain⟨g,a,z,f,hc,_,hb⟩:=ba h.rb (by omega);refine⟨g,a,f,hb.cell ?_⟩;rw[List.getElem?_append_left (by simpa using b)];simp[List.getD,List.getElem?_eq_getElem b]
theorem aC.cached_at {w:World} {e:Nat} {d:am} (h:aC w e d) {k:Nat} (b:k<d.cs.length):∃g c,d.cv= .slice (some ⟨g,0,none⟩) d.cs.length c∧w.cell? ⟨g,k*2,none⟩=some (.int .i64 (d.cs.getD k (0,ByteArray.empty)).1)∧w.cell? ⟨g,k*2+1,none⟩=some (.string (d.cs.getD k (0,ByteArray.empty)).2):=by
 obtain⟨g,a,z,l,hc,_,hb⟩:=ba h.rc (by omega);have j:d.cs.getD k (0,ByteArray.empty)=d.cs[k]:=by simp[List.getD,List.getElem?_eq_getElem b]
 obtain⟨f,i⟩:=IY d.cs k d.cs[k] (List.getElem?_eq_getElem b);have hl:=Ad d.cs;rw[j];exact⟨g,a,l,hb.cell (by rw[List.getElem?_append_left (by omega)];exact f),hb.cell (by rw[List.getElem?_append_left (by omega)];exact i)⟩
theorem eX (q:Nat) (d:am) (w:World) (h:aC w q d) (hd:d.down=false) (i:Nat) (K:i<d.bs.length) (hc:d.cs.length≤4096) (hb:d.bs.length≤1024):
  Calls prog 186 #[.pointer (some ⟨q,0,none⟩), .int .i64 (i:Int)] w fun e w'=>e= .returned (.tuple #[.string (d.shown i), .int .i64 0])∧w=w':=by
 have z:=hid h;obtain⟨n,hn⟩:∃n,d.cs.length=n:=⟨_,rfl⟩;have A:=hid hn;rw[hn]at hc;obtain⟨V,S,j⟩:=sO h;have D:=h.blk.cell (i:=1) rfl;rw[j,hn]at D;obtain⟨T,R,u,t⟩:=h.block K;have I:=h.blk.cell (i:=0) rfl;rw[u]at I;have H:=hid j;obtain⟨sb,o⟩:∃s,d.bs.getD i ByteArray.empty=s:=⟨_,rfl⟩;rw[o]at t;have B:=hid o;clear h j u hn o;go_enter func186,ntmps186;go_wp2_with fail
 refine(qG q d _ z.out).mono ?_
 rintro e w' ⟨rfl,rfl⟩;rw[hd];go_wp2_with fail
 refine(Ae q d _ z.out (i:Int)).mono ?_
 rintro e w' ⟨rfl,rfl⟩;have r:(decide ((0:Int)≤(i:Int))&&decide ((i:Int)<(d.bs.length:Int)))=true:=by simp;omega
 rw[r];have L:(0:Int)≤(i:Int):=by omega
 have M:(i:Int)<(d.bs.length:Int):=by omega
 clear r;go_wp2_with fail;go_loopw [7] (fun v wr=>∃k:Nat,k≤n∧v= .int .i64 ((k:Int)-1)∧eS d.cs i n=eS d.cs i k∧wr=w) (fun v _=>(intOf v+1).toNat)
 case atStart=>exact⟨n,Nat.le_refl _,rfl,rfl,rfl⟩
 case round=>
  obtain⟨k,U,rfl,y,rfl⟩:=hrel;have f:=hid y;clear y
  cases k with
  |zero=>
   go_wp2_with fail;go_ret2;refine⟨?_,rfl⟩
   have C:d.shown i=sb:=by
    unfold am.shown;rw[A.out,f.out,←B.out];simp[eS]
   rw[C]
   rfl
  |succ m=>
   have N:m<d.cs.length:=by rw[A.out];omega
   obtain⟨g,c,E,F,G⟩:=z.cached_at N;rw[show((m+1:Nat):Int)-1=(m:Int) by omega];have J:wr.cell? ⟨q,1,none⟩=some (.slice (some ⟨g,0,none⟩) n c):=by rw[←A.out,←E];exact z.blk.cell (i:=1) rfl
   clear D E;have O:(0:Int)≤(m:Int):=by omega
   have P:(m:Int)<(n:Int):=by omega
   obtain⟨Q,ps,l⟩:∃a s,d.cs.getD m (0,ByteArray.empty)=(a,s):=⟨_,_,rfl⟩;rw[l]at F G;simp only at F G;have p:=hid l;clear l
   by_cases x:Q=(i:Int)
   ·have b:=hid x
    go_wp2_with fail;go_ret2;refine⟨?_,rfl⟩
    have C:d.shown i=ps:=by
     unfold am.shown;rw[A.out,f.out];unfold eS;rw[p.out,if_pos b.out]
     rfl
    rw[C]
    rfl
   ·have b:=hid x
    go_wp2_with fail;go_roundw
    case rel=>exact⟨m,by omega,by go_num,by rw[f.out,eS,p.out,if_neg b.out],by first|rfl|trivial⟩
    case measure=>simp[intOf];try omega
section
variable {P:Program} {ops:Array Oper} {rest:List Oper} {o:Oper} {a:Act} {w:World} {Q:Exit→Act→World→Prop}
theorem ao (f:TypeId) (x:Operand) (b off:Nat) (cs:List Value) (d:TypeDesc) (c:Option Tmp) (hb:w.rangeAt b off cs)
  (hu:P.underlying f=some d) (hd:d.isRow=true) (j:(P.info? f).map (·.size)=some cs.length)
  (i:Region.wanted o (yielded ops a.tmps)=true) (k:o.op= .load f x) (g:o.dst=c) (l:a.eval x= .pointer (some ⟨b,off,none⟩))
  (h:wpList P ops Q rest (a.put c (.agg cs.toArray)) w):wpList P ops Q (o::rest) a w:=by
 subst g;unfold wpList;rw[if_pos i];refine .inl ?_;unfold Go.Oper.wp
 have e:(execOp a.eval o).run P w= .ok (.value (.agg cs.toArray)) w:=by
  unfold execOp;simp only[k,l,Instr.loadAt,Instr.sureAddr,Sem.run_bind,Sem.run_pure,Result.andThen_ok,run_loadVar_mid w b off f cs d hb hu hd j]
 rw[e];exact h
end
def eT (bs:List ByteArray) (cs:List (Int×ByteArray)):Nat→List ByteArray
 |0=>bs
 |k+1=>(eT bs cs k).set (cs.getD k (0,ByteArray.empty)).1.toNat (cs.getD k (0,ByteArray.empty)).2
theorem dB (a:List ByteArray) (cs:List (Int×ByteArray)):∀k,(eT a cs k).length=a.length
 |0=>rfl
 |k+1=>by unfold eT;rw[List.length_set,dB a cs k]
theorem aC.stored {w:World} {j:Nat} {d:am} (h:aC w j d) {g c:Nat} (f:d.bv= .slice (some ⟨g,0,none⟩) d.bs.length c) (i:Nat) (s:ByteArray):
  bg w (w.setCell ⟨g,i,none⟩ (.string s)) j d {d with bs:=d.bs.set i s}:=by
 have m:=h.rb;rw[f]at m;obtain⟨n,o⟩:=m.stored i (.string s);have a:d.bv.ownBlock=some g:=by rw[f];rfl
 have t:af [g] w (w.setCell ⟨g,i,none⟩ (.string s)):=af.of_grown o (fun k b=>by injection b with b;simp[b]);refine⟨⟨t.blk h.blk (by simp;intro p;exact h.n1 (by rw[a,p])), ?_,ay h.rc t (fun k b l=>by simp at l;subst l;exact h.n3 k a b),h.n1,h.n2,h.n3⟩,t.mono (fun x e=>by simp at e;subst e;exact am.mem1 a),fun x e=> .inl e⟩
 show World.ownsRow _ 0 _ 1 d.bv (d.bs.set i s).length _
 rw[f,List.length_set,List.map_set];exact n
theorem aC.uncached {w w':World} {b:Nat} {d:am} (h:aC w b d) (o:de b w w') (hb:ac w' b ({d with cv:= .slice none 0 0,cs:=[]}:am).cells 78):bg w w' b d {d with cv:= .slice none 0 0,cs:=[]}:=by
 have t:af [b] w w':=o.turned (by simp);refine⟨⟨hb,ay h.rb t (fun k e c=>h.n1 (by simp at c;rw[e,c])),World.ownsRow_nil _ _ _ _,h.n1,by simp[Value.ownBlock],fun g _=>by simp[Value.ownBlock]⟩,t.mono (fun x a=>by simp at a;subst a;simp[am.foot]),fun x a=> ?_⟩;simp only[am.foot,List.mem_cons,List.mem_append,Option.mem_toList,Option.mem_def,Value.ownBlock]at a ⊢
 rcases a with a|a|a
 ·exact .inl (.inl a)
 ·exact .inl (.inr (.inl a))
 ·cases a
theorem Ag {p:Int×ByteArray}:(prog.info? 109).map (·.size)=some (putCells p).length:=by kernel_rfl
theorem I0 (w:World):Sem.run prog (zeroValue 109) w= .ok (.agg (putCells (0,⟨#[]⟩)).toArray) w:=by kernel_rfl
theorem Ah (p:Int×ByteArray):∀v∈putCells p,v.oneCell'=true:=by intro v a;simp[putCells]at a;rcases a with rfl|rfl<;>rfl
theorem yq (k:Int) (w:World):
  Calls prog 192 #[.int .i64 k] w fun e w'=>e= .returned (.bool true)∧w=w':=by
 go_enter func192,ntmps192;go_wp2_with fail;go_ret;exact⟨rfl,rfl⟩
def am.flushed (d:am):am:={d with bs:=eT d.bs d.cs d.cs.length,cv:= .slice none 0 0,cs:=[]}
theorem I1 (z:Nat) (d:am) (w:World) (h:aC w z d) (hc:d.cs.length≤4096) (hb:d.bs.length≤1024) (C:∀(j:Nat) p,d.cs[j]?=some p→0≤p.1∧p.1<d.bs.length):
  Calls prog 191 #[.pointer (some ⟨z,0,none⟩), .func (.func 192) #[] #[]] w fun e w'=>e= .returned (.tuple #[])∧bg w w' z d d.flushed:=by
 have HH:=hid h;have O:=hid C;obtain⟨n,hn⟩:∃n,d.cs.length=n:=⟨_,rfl⟩;have T:=hid hn;rw[hn]at hc;obtain⟨pc,cc,q⟩:=sO h;have W:=h.blk.cell (i:=1) rfl;rw[q,hn]at W;have N:=hid q;clear h q hn C;go_enter func191,ntmps191;go_wp2_with fail;clear W;go_loopw [12] (fun i wr=>∃k:Nat,k≤n∧i= .int .i64 k∧bg w wr z d {d with bs:=eT d.bs d.cs k}) (fun i _=>n-(intOf i).toNat)
 case atStart=>exact⟨0,by omega,rfl,bg.refl HH.out⟩
 case round=>
  obtain⟨k,hk,rfl,E⟩:=hrel;have y:=hid E;clear E
  by_cases P:k<n
  ·have aq:(k:Int)<n:=by omega
   have bm:(0:Int)≤(k:Int):=by omega
   have D:k<d.cs.length:=by rw[T.out];exact P
   obtain⟨g,c,hv,q0,q1⟩:=y.at'.cached_at (k:=k) D;obtain⟨l,b,x⟩:∃a s,d.cs.getD k (0,ByteArray.empty)=(a,s):=⟨_,_,rfl⟩;obtain⟨r,t⟩:=O.out k (l,b) (by rw[←x];simp[List.getD,List.getElem?_eq_getElem D]);obtain⟨i,rfl⟩:∃i:Nat,l=(i:Int):=⟨l.toNat,by simp at r;omega⟩
   have Q:pc=some ⟨g,0,none⟩∧cc=c:=by
    have h1:=N.out;have Y:d.cv= .slice (some ⟨g,0,none⟩) d.cs.length c:=hv;rw[h1]at Y
    injection Y with h3 _ h4
    exact⟨h3,h4⟩
   obtain⟨rfl,rfl⟩:=Q;simp only at r t;have I:(d.cs.getD k (0,ByteArray.empty))=((i:Int),b):=x;have F:wr.cell? ⟨g,k*2,none⟩=some (.int .i64 (i:Int)):=by rw[q0];simp only[I]
   have G:wr.cell? ⟨g,k*2+1,none⟩=some (.string b):=by rw[q1];simp only[I]
   have U:wr.rangeAt g (k*2) (putCells ((i:Int),b)):=by
    intro j u hu
    match j,hu with
    |0,hu=>simp[putCells]at hu;subst hu;simpa using F
    |1,hu=>simp[putCells]at hu;subst hu;exact G
    |j+2,hu=>simp[putCells]at hu
   have HQ:=hid I;clear q0 q1 F G x hv I
   go_wp2_with (first
    |((with_reducible refine ao 109 (.tmp 15) g (k*2) (putCells ((i:Int),b)) _ (some 16) U underlying109 rfl Ag ?hg ?ho ?hds ?hx ?_);(case ho|hg|hds=>rfl);(case hx=>go_num))
    |((with_reducible refine ab 109 _ I0 (some 5) ?hgd ?ho ?hd ?_);(case hgd|ho|hd=>rfl);(intro b5 w5 l5 S X z5))
    |((with_reducible refine aa 109 (.tmp 5) (.tmp 16) b5 (putCells (0,⟨#[]⟩)) (putCells ((i:Int),b)) 109 S rfl Ag (Ah _) ?hgd ?ho ?hx ?hy ?_);(case hgd|ho|hx|hy=>rfl);(intro w6 J o6))
    |fail)
   refine(yq _ _).mono ?_
   rintro e w' ⟨rfl,rfl⟩;have m:Below wr.heap.size wr w6:=o6.below (X.mono l5) l5;have A:=y.at'.below m;have B:i<(eT d.bs d.cs k).length:=by rw[dB];omega
   obtain⟨H,cb,o,Z⟩:=A.block (i:=i) B;have V:=A.blk.cell (i:=0) rfl;have f:d.bv= .slice (some ⟨H,0,none⟩) d.bs.length cb:=by have:=o;simp only[dB]at this;exact this
   have bb:w6.cell? ⟨z,0,none⟩=some (.slice (some ⟨H,0,none⟩) d.bs.length cb):=by rw[←f];exact V
   have p0:=J.cell (i:=0) rfl;have p1:=J.cell (i:=1) rfl
   have bl:w6.frozen? ⟨H,i,none⟩=false:=by
    have R:=A.rb;simp only at R;rw[o]at R;exact R.frozenAt i
   have an:(i:Int)<(d.bs.length:Int):=t;have ad:(0:Int)≤(i:Int):=by omega
   have K:=hid A;have M:=hid f;have L:=hid m;clear V o f A m J o6 X S U r t B;go_wp2_with fail;refine aK 10 (by kernel_rfl) (by kernel_rfl) ?_;simp only[List.take_succ_cons,List.take_zero,List.drop_succ_cons,List.drop_zero]
   iterate 10 still_step
   refine wpStill_nil ?_;go_wp2_with fail;go_roundw
   case rel=>
    refine⟨k+1,by omega,by go_num, ?_⟩;have hA:=K.below ((Below.refl w6.heap.size w6).drew);have hs:=hA.stored (g:=H) (c:=cb) (by simp only[dB];exact M.out) i b;have ht:=((y.below (L.out)).below ((Below.refl w6.heap.size w6).drew)).trans hs;unfold eT;rw[HQ.out];exact ht
   case measure=>simp[intOf];omega
  ·obtain rfl:k=n:=by omega
   have Bk:=y.at'.blk;have v:1<(am.cells {d with bs:=eT d.bs d.cs k}).length:=by show 1<5;decide
   go_wp2_with (first
    |((with_reducible refine iI 46 (.tmp 34) (.const (.slice none 0 0)) z 1 (.slice none 0 0) _ 78 Bk v GT rfl ?hgd ?ho ?hx ?hy ?_);(case hgd|ho|hx|hy=>rfl);(intro w4 B4 o4))
    |fail)
   go_end0;refine⟨rfl, ?_⟩
   have:=y.trans (y.at'.uncached o4 B4)
   unfold am.flushed;rw[T.out];exact this
theorem iC (a:Nat) (d:am) (w:World) (h:aC w a d) (hd:d.down=false) (hl:d.left=0) (hc:d.cs.length≤4096) (hb:d.bs.length≤1024) (b:∀(j:Nat) p,d.cs[j]?=some p→0≤p.1∧p.1<d.bs.length):
  Calls prog 100 #[.pointer (some ⟨a,0,none⟩)] w fun e g=>e= .returned (.int .i64 0)∧bg w g a d d.flushed:=by
 have c:=hid h;have f:=hid b;clear h b;go_enter func100,ntmps100;go_wp2_with fail
 refine(qG a d _ c.out).mono ?_
 rintro e g ⟨rfl,rfl⟩;rw[hd];go_wp2_with fail
 refine(uE a d _ c.out hd hl).mono ?_
 rintro e g ⟨rfl,rfl⟩;go_wp2_with fail
 refine(I1 a d _ c.out hc hb f.out).mono ?_
 rintro e l ⟨rfl,i⟩;have k:=hid i;clear i;go_wp2_with fail;go_ret;exact⟨rfl,k.out⟩
end Go.Proofs.YtadooplpfhdhcaaGreat
