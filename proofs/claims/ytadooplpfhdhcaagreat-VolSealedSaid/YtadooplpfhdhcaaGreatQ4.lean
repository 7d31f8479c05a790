/- Worlds that part in some blocks alone. No program in sight. Rows of the call's own: where they lie behind an append, and what becomes of them where some blocks turn. No program in sight. A disk in memory (chapter 8): what it has, and what becomes of it where other blocks turn. -/
import Derived.Test.YtadooplpfhdhcaaGreatQ2
import Derived.Lib.ReflectliteSwap
import Derived.Test.YtadooplpfhdhcaaGreatQ3
import Derived.Laws.OwnMore
import Derived.Carry
import Derived.OrdersHeld
import Derived.WalkKit
import Derived.ProofKit
import Derived.Deep.MidRow
set_option linter.unusedSimpArgs false
set_option linter.unusedVariables false
set_option maxRecDepth 100000
set_option maxHeartbeats 4000000
namespace Go.Proofs.YtadooplpfhdhcaaGreat
open Go Go.RowKit
open Go.Lib (hid)
open Go.Proofs.Tryz
structure ai (S:List Nat) (w w':World):Prop where
 os:w'.os=w.os
 tape:w'.tape=w.tape
 output:w'.output=w.output
 size:w.heap.size≤w'.heap.size
 block:∀k,k<w.heap.size→k∉S→w'.heap[k]?=w.heap[k]?
section
variable {S T:List Nat} {a u v w w':World}
theorem ai.refl (S:List Nat) (w:World):ai S w w:=⟨rfl,rfl,rfl,Nat.le_refl _,fun _ _ _=>rfl⟩
theorem ai.trans (h:ai S u v) (k:ai S v w):ai S u w:=
 ⟨by rw[k.os,h.os],by rw[k.tape,h.tape],by rw[k.output,h.output],Nat.le_trans h.size k.size,fun i a b=>by rw[k.block i (Nat.lt_of_lt_of_le a h.size) b,h.block i a b]⟩
theorem ai.mono (h:ai S u v) (b:∀x,x∈S→x∈T):ai T u v:=
 ⟨h.os,h.tape,h.output,h.size,fun i a hn=>h.block i a (fun e=>hn (b i e))⟩
theorem ai.fresh (h:ai S u v) (b:∀x,x∈S→x<u.heap.size→x∈T):ai T u v:=
 ⟨h.os,h.tape,h.output,h.size,fun i a hn=>h.block i a (fun e=>hn (b i e a))⟩
theorem ai.of_below {B:Nat} (h:Below B u v) (a:u.heap.size≤B):ai S u v:=
 ⟨h.os,h.tape,h.output,h.size,fun i b _=>h.block i (by omega)⟩
theorem ai.setCell (h:ai S u v) {b:Nat} (hb:b∈S∨u.heap.size≤b) (i:Nat) (x:Value):ai S u (v.setCell ⟨b,i,none⟩ x):=
 ⟨h.os,h.tape,h.output,by have:=h.size;simpa[World.setCell]using this,fun k c hn=>by
   have a:k≠b:=by
    intro e
    rcases hb with hb|hb
    ·exact hn (e ▸ hb)
    ·omega
   rw[Below.heap_setCell _ _ _ _ a];exact h.block k c hn⟩
theorem ai.alloc (h:ai S u v) (o:Obj):ai S u (v.alloc o):=
 ⟨h.os,h.tape,h.output,by have:=h.size;simp;omega,fun k a hn=>by rw[Below.heap_alloc _ _ _ (by have:=h.size;omega)];exact h.block k a hn⟩
theorem ai.drewN (h:ai S u v) (n:Nat):ai S u (v.drewN n):=⟨h.os,h.tape,h.output,h.size,h.block⟩
theorem ai.drew (h:ai S u v):ai S u v.drew:=⟨h.os,h.tape,h.output,h.size,h.block⟩
theorem ai.below {B:Nat} (h:ai S u v) (hb:Below B a u) (b:∀x,x∈S→B≤x) (c:B≤u.heap.size):Below B a v:=
 hb.trans ⟨h.os,h.tape,h.output,h.size,fun k d=>h.block k (by omega) (fun e=>absurd (b k e) (by omega))⟩
theorem ai.blk (h:ai S u v) {b:Nat} {c:List Value} {t:TypeId} (hb:ac u b c t) (hn:b∉S):ac v b c t:=by
 have hl:=hb.lt;unfold ac at hb ⊢;rw[h.block b hl hn,hb]
theorem ai.cell (h:ai S u v) {b i:Nat} (hl:b<u.heap.size) (hn:b∉S):v.cell? ⟨b,i,none⟩=u.cell? ⟨b,i,none⟩:=by
 simp only[World.cell?,h.block b hl hn]
end
section
variable {P:Program} {ops:Array Oper} {rest:List Oper} {o:Oper} {a:Act} {w:World} {Q:Exit→Act→World→Prop}
theorem dS (c:TypeId) (x y:Operand) (b i:Nat) (v:Value) (cs:List Value) (t:TypeId) (hb:ac w b cs t) (e:i<cs.length) (g:(P.info? c).map (·.size)=some 1) (j:v.oneCell'=true)
  (d:o.guard=none) (l:o.op= .store c x y) (p:a.eval x= .pointer (some ⟨b,i,none⟩)) (hy:a.eval y=v)
  (h:∀f,ac f b (cs.set i v) t→cA b w f→wpList P ops Q rest (a.put o.dst undef) f):wpList P ops Q (o::rest) a w:=by
 cases hie:P.info? c with
 |none=>simp[hie]at g
 |some ie=>
  have n:ie.size=1:=by simpa[hie]using g
  refine wpList_plain d fun K k=> ?_
  unfold Oper.wp execOp;have m:=Lib.rl_storeVar_one (P:=P) c ie hie n ⟨b,i,none⟩ v _ j w (hb.cell (List.getElem?_eq_getElem e)) (hb.free i);simp only[l,p,hy,Instr.storeAt,Instr.sureAddr,Sem.run_bind,Sem.run_pure,Result.andThen_ok,m];exact k _ _ (h _ (hb.set i v) ((cA.refl b w).setCell i v))
end
section
variable {P:Program} {ops:Array Oper} {rest:List Oper} {o:Oper} {a:Act} {w:World} {Q:Exit→Act→World→Prop}
theorem FN {b:Nat} {c:List Value} {t:TypeId} (h:ac w b c t) {off n:Nat} (hn:off+n≤c.length):w.there b off n:=fun j a=>
 ⟨by rw[h.cell?,List.getElem?_eq_getElem (by omega)];simp,h.free _⟩
theorem ga (e:TypeId) (x y:Operand) (b off:Nat) (c:List Value) (cs:List Value) (t:TypeId) (hb:ac w b cs t) (hl:off+c.length≤cs.length)
  (i:(P.info? e).map (·.size)=some c.length) (g:∀v∈c,v.oneCell'=true)
  (d:o.guard=none) (j:o.op= .store e x y) (k:a.eval x= .pointer (some ⟨b,off,none⟩)) (hy:a.eval y= .agg c.toArray)
  (h:∀f,ac f b (cs.take off++c++cs.drop (off+c.length)) t→cA b w f→wpList P ops Q rest (a.put o.dst undef) f):wpList P ops Q (o::rest) a w:=
 wpList_store_mid d e x y j b off c.toArray k hy (FN hb (by simpa using hl)) (by simpa using i) (all_oneCell_toArray g) (by simpa using h _ (hb.setCells c off hl) ((cA.refl b w).setCells c off))
end
section
variable {P:Program} {ops:Array Oper} {rest:List Oper} {o:Oper} {a:Act} {w:World} {Q:Exit→Act→World→Prop}
end
def gz (S:List Nat) (w:World) (v:Value) (xs:List ByteArray):Prop:=
 (xs=[]∧∃(p:Option Addr) (c:Nat),v= .slice p 0 c)∨
 ∃g o c,v= .slice (some ⟨g,o,none⟩) xs.length c∧g<w.heap.size∧g∉S∧∀(j:Nat) (x:ByteArray),xs[j]?=some x→w.cell? ⟨g,o+j,none⟩=some (.string x)
theorem gz.turned {S:List Nat} {w b:World} {v:Value} {xs:List ByteArray} (h:gz S w v xs) (a:ai S w b):gz S b v xs:=by
 rcases h with h1|⟨g,o,c,h1,h2,h3,h4⟩
 ·exact .inl h1
 ·exact .inr ⟨g,o,c,h1,Nat.lt_of_lt_of_le h2 a.size,h3,fun j x d=>by rw[a.cell h2 h3];exact h4 j x d⟩
theorem gz.nil (S:List Nat) (w:World):gz S w (.slice none 0 0) []:= .inl ⟨rfl,_,_,rfl⟩
theorem gz.shape {S:List Nat} {w:World} {v:Value} {xs:List ByteArray} (h:gz S w v xs):∃(p:Option Addr) (c:Nat),v= .slice p xs.length c:=by
 rcases h with⟨h1,p,c,h2⟩|⟨g,o,c,h1,_⟩
 ·subst h1;exact⟨p,c,h2⟩
 ·exact⟨_,_,h1⟩
theorem gz.sub {S T:List Nat} {w:World} {v:Value} {xs:List ByteArray} (h:gz S w v xs) (b:∀x,x∈T→x∈S):gz T w v xs:=
 h.imp id fun⟨g,o,c,h1,h2,h3,h4⟩=>⟨g,o,c,h1,h2,fun a=>h3 (b g a),h4⟩
def A7 (w:World) (v:Value) (xs:List ByteArray):Prop:=gz [] w v xs
theorem A7.below {w a:World} {v:Value} {xs:List ByteArray} (h:A7 w v xs) {B:Nat} (hb:Below B w a) (b:w.heap.size≤B):A7 a v xs:=
 gz.turned h (ai.of_below hb b)
theorem A7.shape {w:World} {v:Value} {xs:List ByteArray} (h:A7 w v xs):∃(p:Option Addr) (c:Nat),v= .slice p xs.length c:=gz.shape h
theorem cA.turned {b:Nat} {S:List Nat} {w w':World} (h:cA b w w') (hb:b∈S):ai S w w':=
 ⟨h.os,h.tape,h.output,Nat.le_of_eq h.size.symm,fun k _ hn=>h.block k (fun e=>hn (e ▸ hb))⟩
section
variable {S:List Nat} {w w':World} {base:Nat} {e:TypeId} {size:Nat} {v:Value} {n:Nat} {xs:List Value}
theorem ai.of_grown {a:Option Nat} (h:w.grownBy w' a) (b:∀k,a=some k→k∈S):ai S w w':=
 ⟨h.os,h.tape,h.output,h.size,fun k d hn=>h.block k d (fun c=>hn (b k c.symm))⟩
theorem ai.on {T:List Nat} {u v:World} (h:ai S u v) (k:ai T v w) (b:∀x,x∈T→x∈S∨u.heap.size≤x):ai S u w:=
 ⟨by rw[k.os,h.os],by rw[k.tape,h.tape],by rw[k.output,h.output],Nat.le_trans h.size k.size,fun i a hn=>by
  rw[k.block i (Nat.lt_of_lt_of_le a h.size) (fun c=>(b i c).elim hn (fun d=>by omega)),h.block i a hn]⟩
theorem aJ (h:w.ownsRow base e size v n xs) (t:ai S w w') (hn:∀k,v.ownBlock=some k→k∉S):w'.ownsRow base e size v n xs:=by
 refine⟨h.1,h.2.imp id ?_⟩;rintro⟨g,a,b,rfl,d,c,f⟩;exact⟨g,a,b,rfl,d,by rw[t.block g (Array.getElem?_eq_some_iff.1 c).1 (hn g rfl)];exact c,f⟩
def eI (u:World) (a b:Option Nat):Prop:=b=a∨∀k,b=some k→u.heap.size≤k
theorem A8 {P:Program} (t y:TypeId) (i:TypeInfo) (z:Value) (o:Nat) (G:P.underlying t=some (.slice e)) (B:P.info? e=some i) (J:i.zero=some z)
  (r:i.size=size) (A:i.bytes=o) (H:z.cells.size=size) (F:0<size) (l:w.ownsRow base e size v n xs)
  (a:Addr) (m c:Nat) (b:List Value) (hl:b.length=m*size) (f:∀j u,b[j]?=some u→w.cell? (a.add j)=some u) (I:∀u∈b,u.oneCell'=true)
  (s:n+m≤maxLen) (h:(n+m)*o≤140737488355328) (v':Value) (E:(Builtin.append_ #[t,t] y #[v, .slice (some a) m c]).run P w= .ok v' w'):eI w v.ownBlock v'.ownBlock:=by
 subst r;subst A
 rcases l.2 with⟨rfl,rfl⟩|⟨g,cap,cur,rfl,hbg,hg,hnc,hcm,hcs,htake⟩
 ·have K:xs=[]:=List.eq_nil_of_length_eq_zero (by simpa using l.1)
  subst K;obtain⟨L,M,d,D,_⟩:=run_append_own (P:=P) w w.heap.size t y e i z _ _ G B J rfl rfl H F (.slice none 0 0) 0 [] (World.ownsRow_nil w _ e _) a m c b hl f I s h (Nat.le_refl _);rw[E]at d
  injection d with e1 e2
  subst e1;exact .inr fun k C=>(D.lt k C).1
 ·by_cases p:n+m≤cap
  ·have x:n*i.size+b.length≤cur.size:=by rw[hl,hcs,←Nat.add_mul];exact Nat.mul_le_mul_right _ p
   have d:=run_append_room (P:=P) w t y e i G B g n cap cur hg a m c b hl f I p x;rw[E]at d
   injection d with e1 e2
   subst e1;exact .inl rfl
  ·have q:∀j u,xs[j]?=some u→w.cell? ((⟨g,0,none⟩:Addr).add j)=some u:=l.cells (g:=g) rfl
   have d:=run_append_grow (P:=P) w t y e i z G B J ⟨g,0,none⟩ n cap xs l.1 q a m c b hl f (by omega) (by simp only[maxLen]at s;omega) (growslice_fits (by omega) h);rw[E]at d
   injection d with e1 e2
   subst e1;exact .inr fun k C=>by simp[Value.ownBlock]at C;omega
theorem dU {P:Program} {o:Oper} {a:Act} {K:Act→World→Prop} {Q:Exit→Act→World→Prop} (s x:Operand) (t:TypeId)
  (M:o.op= .call {callee:= .builtin .append,args:=#[s,x],argTypes:=#[t,t]})
  (i:TypeInfo) (z:Value) (d:Nat) (G:P.underlying t=some (.slice e)) (E:P.info? e=some i) (H:i.zero=some z)
  (k:i.size=size) (r:i.bytes=d) (A:z.cells.size=size) (y:0<size)
  (N:a.eval s=v) (l:w.ownsRow base e size v n xs)
  (C:Addr) (m c:Nat) (b:List Value) (O:a.eval x= .slice (some C) m c) (hl:b.length=m*size) (g:∀j u,b[j]?=some u→w.cell? (C.add j)=some u) (D:∀u∈b,u.oneCell'=true)
  (q:n+m≤maxLen) (f:(n+m)*d≤140737488355328) (p:base≤w.heap.size)
  (h:∀v' B,B.ownsRow base e size v' (n+m) (xs++b)→w.grownBy B v.ownBlock→eI w v.ownBlock v'.ownBlock→K (a.put o.dst v') B):o.wp P a w K Q:=by
 obtain⟨v',B,F,I,J,_⟩:=run_append_own (P:=P) w base t o.type e i z size d G E H k r A y v n xs l C m c b hl g D q f p;have L:=A8 t o.type i z d G E H k r A y l C m c b hl g D q f v' F;unfold Oper.wp execOp;simp only[M,resolve,invoke,builtin,Sem.run_bind,Sem.run_pure,Result.andThen_ok,List.map_toArray,List.map_cons,List.map_nil,N,O,F];exact h v' B I J L
theorem ic {P:Program} {q:Array Oper} {g:List Oper} {o:Oper} {a:Act} {Q:Exit→Act→World→Prop} (s x:Operand) (t:TypeId) (D:Region.wanted o (yielded q a.tmps)=true)
  (N:o.op= .call {callee:= .builtin .append,args:=#[s,x],argTypes:=#[t,t]})
  (i:TypeInfo) (z:Value) (d:Nat) (R:P.underlying t=some (.slice e)) (M:P.info? e=some i) (T:i.zero=some z)
  (p:i.size=size) (C:i.bytes=d) (F:z.cells.size=size) (E:0<size)
  (O:a.eval s=v) (r:w.ownsRow base e size v n xs)
  (A:Addr) (m c:Nat) (b:List Value) (S:a.eval x= .slice (some A) m c) (hl:b.length=m*size) (l:∀j u,b[j]?=some u→w.cell? (A.add j)=some u) (G:∀u∈b,u.oneCell'=true)
  (B:n+m≤maxLen) (f:(n+m)*d≤140737488355328) (k:base≤w.heap.size)
  (h:∀v' y,y.ownsRow base e size v' (n+m) (xs++b)→w.grownBy y v.ownBlock→eI w v.ownBlock v'.ownBlock→wpList P q Q g (a.put o.dst v') y):wpList P q Q (o::g) a w:=
 wpList_step fun K L=>by
  simp only[D,if_true];exact dU s x t N i z d R M T p C F E O r A m c b S hl l G B f k fun v' y H I J=>L _ _ (h v' y H I J)
theorem wP {P:Program} {q:Array Oper} {o:Oper} {a:Act} {K:Act→World→Prop} {Q:Exit→Act→World→Prop} {E:Prop}
  (B:o.guard=none) (s x:Operand) (t:TypeId)
  (I:o.op= .call {callee:= .builtin .append,args:=#[s,x],argTypes:=#[t,t]})
  (i:TypeInfo) (z:Value) (d:Nat) (L:P.underlying t=some (.slice e)) (H:P.info? e=some i) (O:i.zero=some z)
  (l:i.size=size) (A:i.bytes=d) (D:z.cells.size=size) (C:0<size)
  (J:a.eval s=v) (p:w.ownsRow base e size v n xs)
  (r:Addr) (m c:Nat) (b:List Value) (N:a.eval x= .slice (some r) m c) (hl:b.length=m*size) (k:∀j u,b[j]?=some u→w.cell? (r.add j)=some u) (G:∀u∈b,u.oneCell'=true)
  (y:n+m≤maxLen) (f:(n+m)*d≤140737488355328) (g:base≤w.heap.size)
  (h:∀v' F,F.ownsRow base e size v' (n+m) (xs++b)→w.grownBy F v.ownBlock→eI w v.ownBlock v'.ownBlock→K (a.put o.dst v') F):
  if Region.wanted o (yielded q a.tmps)=true then Oper.wp P o a w K Q else E:=by
 have M:Region.wanted o (yielded q a.tmps)=true:=by simp[Region.wanted,B]
 rw[if_pos M];exact dU s x t I i z d L H O l A D C J p r m c b N hl k G y f g h
end
structure ao where
 bv:Value
 bs:List ByteArray
 cv:Value
 cs:List (Int×ByteArray)
 down:Bool
 left:Int
def ao.cells (d:ao):List Value:=[d.bv,d.cv, .bool true, .bool d.down, .int .i64 d.left]
def putCells (p:Int×ByteArray):List Value:=[.int .i64 p.1, .string p.2]
def ka (l:List (Int×ByteArray)):List Value:=l.flatMap putCells
theorem A9 (l:List (Int×ByteArray)):(ka l).length=l.length*2:=by
 induction l with
 |nil=>rfl
 |cons a r ih=>show(putCells a++ka r).length= _;rw[List.length_append,ih,List.length_cons];show 2+_= _;omega
theorem FO (l:List (Int×ByteArray)) (p:Int×ByteArray):ka (l++[p])=ka l++putCells p:=by simp[ka]
theorem JG (l:List (Int×ByteArray)):∀(j:Nat) (p:Int×ByteArray),l[j]?=some p→(ka l)[j*2]?=some (.int .i64 p.1)∧(ka l)[j*2+1]?=some (.string p.2):=by
 induction l with
 |nil=>intro j p h;simp at h
 |cons a r ih=>
  intro j p h
  cases j with
  |zero=>simp at h;subst h;exact⟨rfl,rfl⟩
  |succ j=>
   have:=ih j p (by simpa using h)
   show(putCells a++ka r)[(j+1)*2]?= _∧(putCells a++ka r)[(j+1)*2+1]?= _
   rw[List.getElem?_append_right (by show 2≤_;omega),List.getElem?_append_right (by show 2≤_;omega)];rw[show(j+1)*2-(putCells a).length=j*2 by show(j+1)*2-2= _;omega,show(j+1)*2+1-(putCells a).length=j*2+1 by show(j+1)*2+1-2= _;omega];exact this
def ao.foot (d:ao) (db:Nat):List Nat:=db::(d.bv.ownBlock.toList++d.cv.ownBlock.toList)
structure aH (w:World) (db:Nat) (d:ao):Prop where
 blk:ac w db d.cells 78
 rb:w.ownsRow 0 9 1 d.bv d.bs.length (d.bs.map .string)
 rc:w.ownsRow 0 109 2 d.cv d.cs.length (ka d.cs)
 n1:d.bv.ownBlock≠some db
 n2:d.cv.ownBlock≠some db
 n3:∀g,d.bv.ownBlock=some g→d.cv.ownBlock≠some g
theorem ao.mem1 {d:ao} {db k:Nat} (h:d.bv.ownBlock=some k):k∈d.foot db:=by simp[ao.foot,h]
theorem ao.mem2 {d:ao} {db k:Nat} (h:d.cv.ownBlock=some k):k∈d.foot db:=by simp[ao.foot,h]
theorem aH.turned {S:List Nat} {w e:World} {a:Nat} {d:ao} (h:aH w a d) (t:ai S w e) (b:∀x,x∈d.foot a→x∉S):aH e a d:=
 ⟨t.blk h.blk (b a (by simp[ao.foot])),aJ h.rb t (fun k c=>b k (ao.mem1 c)),aJ h.rc t (fun k c=>b k (ao.mem2 c)),h.n1,h.n2,h.n3⟩
theorem aH.below {w b:World} {a:Nat} {d:ao} (h:aH w a d) (hb:Below w.heap.size w b):aH b a d:=
 h.turned (S:=[]) (ai.of_below hb (Nat.le_refl _)) (by simp)
theorem aH.lt {w:World} {b:Nat} {d:ao} (h:aH w b d):∀x,x∈d.foot b→x<w.heap.size:=by
 intro x a;simp only[ao.foot,List.mem_cons,List.mem_append,Option.mem_toList,Option.mem_def]at a
 rcases a with rfl|a|a
 ·exact h.blk.lt
 ·exact(h.rb.lt x a).2
 ·exact(h.rc.lt x a).2
def eX (cs:List (Int×ByteArray)) (i:Int):Nat→Option ByteArray
 |0=>none
 |k+1=>if(cs.getD k (0,ByteArray.empty)).1=i then some (cs.getD k (0,ByteArray.empty)).2 else eX cs i k
def ao.shown (d:ao) (i:Int):ByteArray:=(eX d.cs i d.cs.length).getD (d.bs.getD i.toNat ByteArray.empty)
def ao.step (d:ao):ao:=if 0<d.left then{d with left:=d.left-1,down:=d.left-1==0} else d
structure bf (w w':World) (db:Nat) (d d':ao):Prop where
 at':aH w' db d'
 turned:ai (d.foot db) w w'
 foot:∀x,x∈d'.foot db→x∈d.foot db∨w.heap.size≤x
theorem bf.refl {w:World} {a:Nat} {d:ao} (h:aH w a d):bf w w a d d:=⟨h,ai.refl _ _,fun _ hx=> .inl hx⟩
theorem bf.trans {u v w:World} {a:Nat} {d c d'':ao} (h:bf u v a d c) (k:bf v w a c d''):bf u w a d d'':=
 ⟨k.at',h.turned.on k.turned h.foot,fun x e=>(k.foot x e).elim (fun b=>h.foot x b) (fun b=> .inr (Nat.le_trans h.turned.size b))⟩
theorem bf.below {u v w:World} {a:Nat} {d d':ao} (h:bf u v a d d') (hb:Below v.heap.size v w):bf u w a d d':=
 ⟨h.at'.below hb,h.turned.trans (ai.of_below hb (Nat.le_refl _)),h.foot⟩
theorem bf.ahead {u v w:World} {a:Nat} {d d':ao} (hb:Below u.heap.size u v) (h:bf v w a d d'):bf u w a d d':=
 ⟨h.at',(ai.of_below hb (Nat.le_refl _)).trans h.turned,fun x c=>(h.foot x c).elim .inl (fun b=> .inr (Nat.le_trans hb.size b))⟩
theorem li (a:Nat) (d:ao) (w:World) (h:aH w a d):
  Calls prog 43 #[.pointer (some ⟨a,0,none⟩)] w fun e w'=>e= .returned (.bool true)∧w=w':=by
 have b:=h.blk.cell (i:=2) rfl;go_enter func43,ntmps43;go_wp2_with fail;go_ret;exact⟨rfl,rfl⟩
theorem ru (a:Nat) (d:ao) (w:World) (h:aH w a d):
  Calls prog 189 #[.pointer (some ⟨a,0,none⟩)] w fun e w'=>e= .returned (.int .i64 (if d.down then 14 else 0))∧w=w':=by
 have b:=h.blk.cell (i:=3) rfl;obtain⟨q,c⟩:∃q,d.down=q:=⟨_,rfl⟩;rw[c]at b ⊢
 cases q with
 |false=>
  go_enter func189,ntmps189;go_wp2_with fail
  refine(li a d _ h).mono ?_
  rintro e w' ⟨rfl,rfl⟩;go_wp2_with fail;go_ret;exact⟨rfl,rfl⟩
 |true=>
  go_enter func189,ntmps189;go_wp2_with fail
  refine(li a d _ h).mono ?_
  rintro e w' ⟨rfl,rfl⟩;go_wp2_with fail;go_ret;exact⟨rfl,rfl⟩
theorem tO {w:World} {a:Nat} {d:ao} (h:aH w a d):∃(p:Option Addr) (c:Nat),d.bv= .slice p d.bs.length c:=aD h.rb
theorem tP {w:World} {a:Nat} {d:ao} (h:aH w a d):∃(p:Option Addr) (c:Nat),d.cv= .slice p d.cs.length c:=aD h.rc
theorem Bf (b:Nat) (d:ao) (w:World) (h:aH w b d) (i:Int):
  Calls prog 251 #[.pointer (some ⟨b,0,none⟩), .int .i64 i] w fun e w'=>e= .returned (.bool (decide (0≤i)&&decide (i<d.bs.length)))∧w=w':=by
 have j:=h.blk.cell (i:=0) rfl;obtain⟨p,c,l⟩:=tO h;rw[l]at j
 by_cases f:0≤i
 ·by_cases g:i<(d.bs.length:Int)
  ·have a:=g
   go_enter func251,ntmps251;go_wp2_with fail;go_ret;exact⟨by simp[f,a],rfl⟩
  ·have a:(d.bs.length:Int)≤i:=by omega
   go_enter func251,ntmps251;go_wp2_with fail;go_ret;exact⟨by simp[f,g],rfl⟩
 ·have a:i<0:=by omega
  go_enter func251,ntmps251;go_wp2_with fail;go_ret
  exact⟨by have k:¬(0≤i):=by omega
           simp[k],rfl⟩
theorem pW (a:Nat) (d:ao) (w:World) (h:aH w a d):
  Calls prog 93 #[.pointer (some ⟨a,0,none⟩)] w fun e w'=>e= .returned (.int .i64 d.bs.length)∧w=w':=by
 have b:=h.blk.cell (i:=0) rfl;obtain⟨p,c,f⟩:=tO h;rw[f]at b;go_enter func93,ntmps93;go_wp2_with fail
 refine(li a d _ h).mono ?_
 rintro e w' ⟨rfl,rfl⟩;go_wp2_with fail;go_ret;exact⟨rfl,rfl⟩
theorem vg (a:Nat) (d:ao) (w:World) (h:aH w a d):
  Calls prog 94 #[.pointer (some ⟨a,0,none⟩)] w fun e w'=>e= .returned (.bool d.down)∧w=w':=by
 have b:=h.blk.cell (i:=3) rfl;go_enter func94,ntmps94;go_wp2_with fail
 refine(li a d _ h).mono ?_
 rintro e w' ⟨rfl,rfl⟩;go_wp2_with fail;go_ret;exact⟨rfl,rfl⟩
def ao.placeE (d:ao) (i:Int) (n:Nat):Int:=if(decide (0≤i)&&decide (i<d.bs.length))=true then(if n=4096 then 0 else 2)else 4
theorem DL (f:Nat) (d:ao) (w:World) (h:aH w f d) (i:Int) (s:ByteArray):
  Calls prog 252 #[.pointer (some ⟨f,0,none⟩), .int .i64 i, .string s] w fun e w'=>e= .returned (.int .i64 (d.placeE i s.size))∧w=w':=by
 go_enter func252,ntmps252;go_wp2_with fail
 refine(Bf f d _ h i).mono ?_
 rintro e w' ⟨rfl,rfl⟩;obtain⟨q,g⟩:∃q,(decide (0≤i)&&decide (i<(d.bs.length:Int)))=q:=⟨_,rfl⟩;have c:=hid g;rw[g];clear g
 cases q with
 |false=>
  have a:=hid (show d.placeE i s.size=4 by unfold ao.placeE;rw[c.out];simp);go_wp2_with fail;go_ret;exact⟨by rw[a.out];rfl,rfl⟩
 |true=>
  by_cases b:s.size=4096
  ·have j:(s.size:Int)=4096:=by omega
   have a:=hid (show d.placeE i s.size=0 by unfold ao.placeE;rw[c.out];simp[b]);clear b;go_wp2_with fail;go_ret;exact⟨by rw[a.out];rfl,rfl⟩
  ·have j:(s.size:Int)≠4096:=by omega
   have a:=hid (show d.placeE i s.size=2 by unfold ao.placeE;rw[c.out];simp[b]);clear b;go_wp2_with fail;go_ret;exact⟨by rw[a.out];rfl,rfl⟩
theorem Bi:(prog.info? 109).map (fun i=>(i.zero,i.size,i.bytes))=some (some (.agg #[.int .i64 0, .string ⟨#[]⟩]),2,24):=by kernel_rfl
theorem tQ:(prog.info? 9).map (fun i=>(i.zero,i.size,i.bytes))=some (some (.string ⟨#[]⟩),1,16):=by kernel_rfl
theorem Iy:(prog.info? 46).map (·.size)=some 1:=by kernel_rfl
theorem JH {w:World} {a:Nat} {e:TypeId} {size:Nat} {v:Value} {n:Nat} {xs:List Value} (h:w.ownsRow a e size v n xs):v.oneCell'=true:=by obtain⟨d,c,b⟩:=aD h;rw[b];rfl
theorem vh (a:Nat) (d:ao) (w:World) (h:aH w a d) (hd:d.down=false) (hl:d.left=0):
  Calls prog 190 #[.pointer (some ⟨a,0,none⟩)] w fun e w'=>e= .returned (.bool false)∧w=w':=by
 have b:=h.blk.cell (i:=3) rfl;have c:=h.blk.cell (i:=4) rfl;rw[hd]at b;rw[hl]at c;go_enter func190,ntmps190;go_wp2_with fail;go_ret;exact⟨rfl,rfl⟩
theorem aH.only {w w':World} {a:Nat} {d d':ao} (h:aH w a d) (o:cA a w w') (hb:ac w' a d'.cells 78) (c:d'.bv=d.bv) (g:d'.bs=d.bs) (e:d'.cv=d.cv) (i:d'.cs=d.cs):aH w' a d':=by
 have t:ai [a] w w':=o.turned (by simp);refine⟨hb, ?_, ?_,by rw[c];exact h.n1,by rw[e];exact h.n2,by rw[c,e];exact h.n3⟩
 ·rw[c,g];exact aJ h.rb t (fun k f b=>h.n1 (by simp at b;rw[f,b]))
 ·rw[e,i];exact aJ h.rc t (fun k f b=>h.n2 (by simp at b;rw[f,b]))
theorem aH.cached {u w w':World} {db:Nat} {d:ao} {v:Value} {l:List (Int×ByteArray)} (h:aH u db d) (p:w.ownsRow 0 109 2 v l.length (ka l)) (n:u.grownBy w d.cv.ownBlock) (hn:eI u d.cv.ownBlock v.ownBlock)
  (o:cA db w w') (hb:ac w' db ({d with cv:=v,cs:=l}:ao).cells 78):bf u w' db d {d with cv:=v,cs:=l}:=by
 have q:ai (d.foot db) u w:=ai.of_grown n (fun k b=>ao.mem2 b);have j:ai [db] w w':=o.turned (by simp)
 have c:v.ownBlock≠some db:=by
  intro m
  rcases hn with h1|h1
  ·exact h.n2 (by rw[←h1];exact m)
  ·have:=h1 db m;have:=h.blk.lt;omega
 refine⟨⟨hb, ?_, ?_,h.n1,c, ?_⟩, ?_, ?_⟩
 ·refine aJ (S:=[db]) ?_ j (fun k b e=>h.n1 (by simp at e;rw[b,e]))
  exact aJ (S:=d.cv.ownBlock.toList) h.rb (ai.of_grown n (fun k b=>by simp[b])) (fun k b e=>h.n3 k b (by simpa using e))
 ·exact aJ p j (fun k b e=>c (by simp at e;rw[b,e]))
 ·intro g f i
  rcases hn with h1|h1
  ·exact h.n3 g f (by rw[←h1];exact i)
  ·have:=h1 g i;have:=(h.rb.lt g f).2;omega
 ·exact q.trans (j.mono (fun x a=>by simp at a;subst a;simp[ao.foot]))
 ·intro x a
  simp only[ao.foot,List.mem_cons,List.mem_append,Option.mem_toList,Option.mem_def]at a ⊢
  rcases a with a|a|a
  ·exact .inl (.inl a)
  ·exact .inl (.inr (.inl a))
  ·rcases hn with h1|h1
   ·exact .inl (.inr (.inr (by rw[←h1];exact a)))
   ·exact .inr (h1 x a)
theorem DN (k:Nat) (d:ao) (w:World) (h:aH w k d) (hd:d.down=false) (hl:d.left=0) (hc:d.cs.length<4096) (i:Int) (s:ByteArray) (C:0≤i) (q:i<d.bs.length) (D:s.size=4096):
  Calls prog 188 #[.pointer (some ⟨k,0,none⟩), .int .i64 i, .string s] w fun e u=>e= .returned (.int .i64 0)∧∃x,bf w u k d {d with cv:=x,cs:=d.cs++[(i,s)]}:=by
 obtain⟨P,Q,y,z,A⟩:=info_parts Bi;have b:=hid h;have J:=hid (show d.placeE i s.size=0 by unfold ao.placeE;simp[C,q,D]);have I:=hid hc;clear h C q D hc;go_enter func188,ntmps188;go_wp2_with fail
 refine(ru k d _ b.out).mono ?_
 rintro e u ⟨rfl,rfl⟩;rw[hd];go_wp2_with fail
 refine(DL k d _ b.out i s).mono ?_
 rintro e u ⟨rfl,rfl⟩;rw[J.out];have K:=b.blk.cell (i:=1) rfl;obtain⟨p,c,m⟩:=tP b.out;have f:=hid m;rw[m]at K;have O:(d.cs.length:Int)<4096:=by have:=I.out;omega
 clear m;have n:1<d.cells.length:=by show 1<5;decide
 go_wp2_with fail
 refine(vh k d _ b.out hd hl).mono ?_
 rintro e u ⟨rfl,rfl⟩;have g:=b.rc;rw[f.out]at g
 go_wp2_with (first
  |((with_reducible refine aT 46 109 1 ?parts [.int .i64 i, .string s] (.agg #[.int .i64 0, .string ⟨#[]⟩]) 2 24 (some 39) underlying46 Bi (by omega) (by omega) ?hgd ?ho ?hd ?hf ?_);(case hgd|ho|hd=>rfl);(case hf=>kernel_rfl);(intro L S B F t V);(have r:=own_below (t.mono B) g))
  |(at_builtin;refine ic _ _ 46 rfl rfl P (.agg #[.int .i64 0, .string ⟨#[]⟩]) 24 underlying46 Q y z A rfl (by decide) rfl r ⟨L,0,none⟩ 1 1 [.int .i64 i, .string s] rfl rfl (bJ F) (by intro v E;simp at E;rcases E with rfl|rfl<;>rfl) (by unfold maxLen;omega) (by omega) (Nat.zero_le _) ?_;intro v' T j a o;have G:=(b.blk.below t (by have:=b.blk.lt;omega)).grown a (by rw[←f.out];exact fun N=>b.n2 N.symm))
  |((with_reducible refine dS 46 (.tmp 43) (.tmp 40) k 1 v' d.cells 78 G n Iy (JH j) ?hgd ?ho ?hx ?hy ?_);(case hgd|ho|hx|hy=>rfl);(intro U H R))
  |fail)
 go_ret;refine⟨rfl,v', ?_⟩;have M:=b.below (t.mono B);refine bf.ahead (t.mono B) (M.cached (l:=d.cs++[(i,s)]) (by rw[List.length_append,FO];exact j) (by rw[f.out];exact a) (by rw[f.out];exact o) R H)
theorem aH.block {w:World} {e:Nat} {d:ao} (h:aH w e d) {i:Nat} (b:i<d.bs.length):∃g c,d.bv= .slice (some ⟨g,0,none⟩) d.bs.length c∧w.cell? ⟨g,i,none⟩=some (.string (d.bs.getD i ByteArray.empty)):=by
 obtain⟨g,a,z,f,hc,_,hb⟩:=bO h.rb (by omega);refine⟨g,a,f,hb.cell ?_⟩;rw[List.getElem?_append_left (by simpa using b)];simp[List.getD,List.getElem?_eq_getElem b]
theorem aH.cached_at {w:World} {e:Nat} {d:ao} (h:aH w e d) {k:Nat} (b:k<d.cs.length):∃g c,d.cv= .slice (some ⟨g,0,none⟩) d.cs.length c∧w.cell? ⟨g,k*2,none⟩=some (.int .i64 (d.cs.getD k (0,ByteArray.empty)).1)∧w.cell? ⟨g,k*2+1,none⟩=some (.string (d.cs.getD k (0,ByteArray.empty)).2):=by
 obtain⟨g,a,z,l,hc,_,hb⟩:=bO h.rc (by omega);have j:d.cs.getD k (0,ByteArray.empty)=d.cs[k]:=by simp[List.getD,List.getElem?_eq_getElem b]
 obtain⟨f,i⟩:=JG d.cs k d.cs[k] (List.getElem?_eq_getElem b);have hl:=A9 d.cs;rw[j];exact⟨g,a,l,hb.cell (by rw[List.getElem?_append_left (by omega)];exact f),hb.cell (by rw[List.getElem?_append_left (by omega)];exact i)⟩
theorem fc (q:Nat) (d:ao) (w:World) (h:aH w q d) (hd:d.down=false) (i:Nat) (K:i<d.bs.length) (hc:d.cs.length≤4096) (hb:d.bs.length≤1024):
  Calls prog 186 #[.pointer (some ⟨q,0,none⟩), .int .i64 (i:Int)] w fun e w'=>e= .returned (.tuple #[.string (d.shown i), .int .i64 0])∧w=w':=by
 have z:=hid h;obtain⟨n,hn⟩:∃n,d.cs.length=n:=⟨_,rfl⟩;have A:=hid hn;rw[hn]at hc;obtain⟨V,S,j⟩:=tP h;have D:=h.blk.cell (i:=1) rfl;rw[j,hn]at D;obtain⟨T,R,u,t⟩:=h.block K;have I:=h.blk.cell (i:=0) rfl;rw[u]at I;have H:=hid j;obtain⟨sb,o⟩:∃s,d.bs.getD i ByteArray.empty=s:=⟨_,rfl⟩;rw[o]at t;have B:=hid o;clear h j u hn o;go_enter func186,ntmps186;go_wp2_with fail
 refine(ru q d _ z.out).mono ?_
 rintro e w' ⟨rfl,rfl⟩;rw[hd];go_wp2_with fail
 refine(Bf q d _ z.out (i:Int)).mono ?_
 rintro e w' ⟨rfl,rfl⟩;have r:(decide ((0:Int)≤(i:Int))&&decide ((i:Int)<(d.bs.length:Int)))=true:=by simp;omega
 rw[r];have L:(0:Int)≤(i:Int):=by omega
 have M:(i:Int)<(d.bs.length:Int):=by omega
 clear r;go_wp2_with fail;go_loopw [7] (fun v wr=>∃k:Nat,k≤n∧v= .int .i64 ((k:Int)-1)∧eX d.cs i n=eX d.cs i k∧wr=w) (fun v _=>(intOf v+1).toNat)
 case atStart=>exact⟨n,Nat.le_refl _,rfl,rfl,rfl⟩
 case round=>
  obtain⟨k,U,rfl,y,rfl⟩:=hrel;have f:=hid y;clear y
  cases k with
  |zero=>
   go_wp2_with fail;go_ret2;refine⟨?_,rfl⟩
   have C:d.shown i=sb:=by
    unfold ao.shown;rw[A.out,f.out,←B.out];simp[eX]
   rw[C]
   rfl
  |succ m=>
   have N:m<d.cs.length:=by rw[A.out];omega
   obtain⟨g,c,E,F,G⟩:=z.cached_at N;rw[show((m+1:Nat):Int)-1=(m:Int) by omega];have J:wr.cell? ⟨q,1,none⟩=some (.slice (some ⟨g,0,none⟩) n c):=by rw[←A.out,←E];exact z.blk.cell (i:=1) rfl
   clear D E;have O:(0:Int)≤(m:Int):=by omega
   have P:(m:Int)<(n:Int):=by omega
   obtain⟨Q,ps,l⟩:∃a s,d.cs.getD m (0,ByteArray.empty)=(a,s):=⟨_,_,rfl⟩;rw[l]at F G;simp only at F G;have p:=hid l;clear l
   by_cases x:Q=(i:Int)
   ·have b:=hid x
    go_wp2_with fail;go_ret2;refine⟨?_,rfl⟩
    have C:d.shown i=ps:=by
     unfold ao.shown;rw[A.out,f.out];unfold eX;rw[p.out,if_pos b.out]
     rfl
    rw[C]
    rfl
   ·have b:=hid x
    go_wp2_with fail;go_roundw
    case rel=>exact⟨m,by omega,by go_num,by rw[f.out,eX,p.out,if_neg b.out],by first|rfl|trivial⟩
    case measure=>simp[intOf];try omega
section
variable {P:Program} {ops:Array Oper} {rest:List Oper} {o:Oper} {a:Act} {w:World} {Q:Exit→Act→World→Prop}
theorem ag (f:TypeId) (x:Operand) (b off:Nat) (cs:List Value) (d:TypeDesc) (c:Option Tmp) (hb:w.rangeAt b off cs)
  (hu:P.underlying f=some d) (hd:d.isRow=true) (j:(P.info? f).map (·.size)=some cs.length)
  (i:Region.wanted o (yielded ops a.tmps)=true) (k:o.op= .load f x) (g:o.dst=c) (l:a.eval x= .pointer (some ⟨b,off,none⟩))
  (h:wpList P ops Q rest (a.put c (.agg cs.toArray)) w):wpList P ops Q (o::rest) a w:=by
 subst g;unfold wpList;rw[if_pos i];refine .inl ?_;unfold Go.Oper.wp
 have e:(execOp a.eval o).run P w= .ok (.value (.agg cs.toArray)) w:=by
  unfold execOp;simp only[k,l,Instr.loadAt,Instr.sureAddr,Sem.run_bind,Sem.run_pure,Result.andThen_ok,run_loadVar_mid w b off f cs d hb hu hd j]
 rw[e];exact h
end
def eY (bs:List ByteArray) (cs:List (Int×ByteArray)):Nat→List ByteArray
 |0=>bs
 |k+1=>(eY bs cs k).set (cs.getD k (0,ByteArray.empty)).1.toNat (cs.getD k (0,ByteArray.empty)).2
theorem dx (a:List ByteArray) (cs:List (Int×ByteArray)):∀k,(eY a cs k).length=a.length
 |0=>rfl
 |k+1=>by unfold eY;rw[List.length_set,dx a cs k]
theorem aH.stored {w:World} {j:Nat} {d:ao} (h:aH w j d) {g c:Nat} (f:d.bv= .slice (some ⟨g,0,none⟩) d.bs.length c) (i:Nat) (s:ByteArray):
  bf w (w.setCell ⟨g,i,none⟩ (.string s)) j d {d with bs:=d.bs.set i s}:=by
 have m:=h.rb;rw[f]at m;obtain⟨n,o⟩:=m.stored i (.string s);have a:d.bv.ownBlock=some g:=by rw[f];rfl
 have t:ai [g] w (w.setCell ⟨g,i,none⟩ (.string s)):=ai.of_grown o (fun k b=>by injection b with b;simp[b]);refine⟨⟨t.blk h.blk (by simp;intro p;exact h.n1 (by rw[a,p])), ?_,aJ h.rc t (fun k b l=>by simp at l;subst l;exact h.n3 k a b),h.n1,h.n2,h.n3⟩,t.mono (fun x e=>by simp at e;subst e;exact ao.mem1 a),fun x e=> .inl e⟩
 show World.ownsRow _ 0 _ 1 d.bv (d.bs.set i s).length _
 rw[f,List.length_set,List.map_set];exact n
theorem aH.uncached {w w':World} {b:Nat} {d:ao} (h:aH w b d) (o:cA b w w') (hb:ac w' b ({d with cv:= .slice none 0 0,cs:=[]}:ao).cells 78):bf w w' b d {d with cv:= .slice none 0 0,cs:=[]}:=by
 have t:ai [b] w w':=o.turned (by simp);refine⟨⟨hb,aJ h.rb t (fun k e c=>h.n1 (by simp at c;rw[e,c])),World.ownsRow_nil _ _ _ _,h.n1,by simp[Value.ownBlock],fun g _=>by simp[Value.ownBlock]⟩,t.mono (fun x a=>by simp at a;subst a;simp[ao.foot]),fun x a=> ?_⟩;simp only[ao.foot,List.mem_cons,List.mem_append,Option.mem_toList,Option.mem_def,Value.ownBlock]at a ⊢
 rcases a with a|a|a
 ·exact .inl (.inl a)
 ·exact .inl (.inr (.inl a))
 ·cases a
theorem Bj {p:Int×ByteArray}:(prog.info? 109).map (·.size)=some (putCells p).length:=by kernel_rfl
theorem JI (w:World):Sem.run prog (zeroValue 109) w= .ok (.agg (putCells (0,⟨#[]⟩)).toArray) w:=by kernel_rfl
theorem Bl (p:Int×ByteArray):∀v∈putCells p,v.oneCell'=true:=by intro v a;simp[putCells]at a;rcases a with rfl|rfl<;>rfl
theorem zh (k:Int) (w:World):
  Calls prog 192 #[.int .i64 k] w fun e w'=>e= .returned (.bool true)∧w=w':=by
 go_enter func192,ntmps192;go_wp2_with fail;go_ret;exact⟨rfl,rfl⟩
def ao.flushed (d:ao):ao:={d with bs:=eY d.bs d.cs d.cs.length,cv:= .slice none 0 0,cs:=[]}
theorem JJ (z:Nat) (d:ao) (w:World) (h:aH w z d) (hc:d.cs.length≤4096) (hb:d.bs.length≤1024) (C:∀(j:Nat) p,d.cs[j]?=some p→0≤p.1∧p.1<d.bs.length):
  Calls prog 191 #[.pointer (some ⟨z,0,none⟩), .func (.func 192) #[] #[]] w fun e w'=>e= .returned (.tuple #[])∧bf w w' z d d.flushed:=by
 have HH:=hid h;have O:=hid C;obtain⟨n,hn⟩:∃n,d.cs.length=n:=⟨_,rfl⟩;have T:=hid hn;rw[hn]at hc;obtain⟨pc,cc,q⟩:=tP h;have W:=h.blk.cell (i:=1) rfl;rw[q,hn]at W;have N:=hid q;clear h q hn C;go_enter func191,ntmps191;go_wp2_with fail;clear W;go_loopw [12] (fun i wr=>∃k:Nat,k≤n∧i= .int .i64 k∧bf w wr z d {d with bs:=eY d.bs d.cs k}) (fun i _=>n-(intOf i).toNat)
 case atStart=>exact⟨0,by omega,rfl,bf.refl HH.out⟩
 case round=>
  obtain⟨k,hk,rfl,E⟩:=hrel;have y:=hid E;clear E
  by_cases P:k<n
  ·have an:(k:Int)<n:=by omega
   have bk:(0:Int)≤(k:Int):=by omega
   have D:k<d.cs.length:=by rw[T.out];exact P
   obtain⟨g,c,hv,q0,q1⟩:=y.at'.cached_at (k:=k) D;obtain⟨l,b,x⟩:∃a s,d.cs.getD k (0,ByteArray.empty)=(a,s):=⟨_,_,rfl⟩;obtain⟨r,t⟩:=O.out k (l,b) (by rw[←x];simp[List.getD,List.getElem?_eq_getElem D]);obtain⟨i,rfl⟩:∃i:Nat,l=(i:Int):=⟨l.toNat,by simp at r;omega⟩
   have Q:pc=some ⟨g,0,none⟩∧cc=c:=by
    have h1:=N.out;have Y:d.cv= .slice (some ⟨g,0,none⟩) d.cs.length c:=hv;rw[h1]at Y
    injection Y with h3 _ h4
    exact⟨h3,h4⟩
   obtain⟨rfl,rfl⟩:=Q;simp only at r t;have I:(d.cs.getD k (0,ByteArray.empty))=((i:Int),b):=x;have F:wr.cell? ⟨g,k*2,none⟩=some (.int .i64 (i:Int)):=by rw[q0];simp only[I]
   have G:wr.cell? ⟨g,k*2+1,none⟩=some (.string b):=by rw[q1];simp only[I]
   have U:wr.rangeAt g (k*2) (putCells ((i:Int),b)):=by
    intro j u hu
    match j,hu with
    |0,hu=>simp[putCells]at hu;subst hu;simpa using F
    |1,hu=>simp[putCells]at hu;subst hu;exact G
    |j+2,hu=>simp[putCells]at hu
   have HQ:=hid I;clear q0 q1 F G x hv I
   go_wp2_with (first
    |((with_reducible refine ag 109 (.tmp 15) g (k*2) (putCells ((i:Int),b)) _ (some 16) U underlying109 rfl Bj ?hg ?ho ?hds ?hx ?_);(case ho|hg|hds=>rfl);(case hx=>go_num))
    |((with_reducible refine ab 109 _ JI (some 5) ?hgd ?ho ?hd ?_);(case hgd|ho|hd=>rfl);(intro b5 w5 l5 S X z5))
    |((with_reducible refine aa 109 (.tmp 5) (.tmp 16) b5 (putCells (0,⟨#[]⟩)) (putCells ((i:Int),b)) 109 S rfl Bj (Bl _) ?hgd ?ho ?hx ?hy ?_);(case hgd|ho|hx|hy=>rfl);(intro w6 J o6))
    |fail)
   refine(zh _ _).mono ?_
   rintro e w' ⟨rfl,rfl⟩;have m:Below wr.heap.size wr w6:=o6.below (X.mono l5) l5;have A:=y.at'.below m;have B:i<(eY d.bs d.cs k).length:=by rw[dx];omega
   obtain⟨H,cb,o,Z⟩:=A.block (i:=i) B;have V:=A.blk.cell (i:=0) rfl;have f:d.bv= .slice (some ⟨H,0,none⟩) d.bs.length cb:=by have:=o;simp only[dx]at this;exact this
   have a9:w6.cell? ⟨z,0,none⟩=some (.slice (some ⟨H,0,none⟩) d.bs.length cb):=by rw[←f];exact V
   have p0:=J.cell (i:=0) rfl;have p1:=J.cell (i:=1) rfl
   have bi:w6.frozen? ⟨H,i,none⟩=false:=by
    have R:=A.rb;simp only at R;rw[o]at R;exact R.frozenAt i
   have ah:(i:Int)<(d.bs.length:Int):=t;have ad:(0:Int)≤(i:Int):=by omega
   have K:=hid A;have M:=hid f;have L:=hid m;clear V o f A m J o6 X S U r t B;go_wp2_with fail;refine aO 10 (by kernel_rfl) (by kernel_rfl) ?_;simp only[List.take_succ_cons,List.take_zero,List.drop_succ_cons,List.drop_zero]
   iterate 10 still_step
   refine wpStill_nil ?_;go_wp2_with fail;go_roundw
   case rel=>
    refine⟨k+1,by omega,by go_num, ?_⟩;have hA:=K.below ((Below.refl w6.heap.size w6).drew);have hs:=hA.stored (g:=H) (c:=cb) (by simp only[dx];exact M.out) i b;have ht:=((y.below (L.out)).below ((Below.refl w6.heap.size w6).drew)).trans hs;unfold eY;rw[HQ.out];exact ht
   case measure=>simp[intOf];omega
  ·obtain rfl:k=n:=by omega
   have Bk:=y.at'.blk;have v:1<(ao.cells {d with bs:=eY d.bs d.cs k}).length:=by show 1<5;decide
   go_wp2_with (first
    |((with_reducible refine dS 46 (.tmp 34) (.const (.slice none 0 0)) z 1 (.slice none 0 0) _ 78 Bk v Iy rfl ?hgd ?ho ?hx ?hy ?_);(case hgd|ho|hx|hy=>rfl);(intro w4 B4 o4))
    |fail)
   go_end0;refine⟨rfl, ?_⟩
   have:=y.trans (y.at'.uncached o4 B4)
   unfold ao.flushed;rw[T.out];exact this
theorem iD (a:Nat) (d:ao) (w:World) (h:aH w a d) (hd:d.down=false) (hl:d.left=0) (hc:d.cs.length≤4096) (hb:d.bs.length≤1024) (b:∀(j:Nat) p,d.cs[j]?=some p→0≤p.1∧p.1<d.bs.length):
  Calls prog 100 #[.pointer (some ⟨a,0,none⟩)] w fun e g=>e= .returned (.int .i64 0)∧bf w g a d d.flushed:=by
 have c:=hid h;have f:=hid b;clear h b;go_enter func100,ntmps100;go_wp2_with fail
 refine(ru a d _ c.out).mono ?_
 rintro e g ⟨rfl,rfl⟩;rw[hd];go_wp2_with fail
 refine(vh a d _ c.out hd hl).mono ?_
 rintro e g ⟨rfl,rfl⟩;go_wp2_with fail
 refine(JJ a d _ c.out hc hb f.out).mono ?_
 rintro e l ⟨rfl,i⟩;have k:=hid i;clear i;go_wp2_with fail;go_ret;exact⟨rfl,k.out⟩
end Go.Proofs.YtadooplpfhdhcaaGreat
