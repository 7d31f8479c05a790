/- Worlds that part in some blocks alone. No program in sight. Rows of the call's own: where they lie behind an append, and what becomes of them where some blocks turn. No program in sight. A struct loaded out of the midst of a block, behind a guard that is met. No program in sight. -/
import Derived.Test.YtgimkmclgjfddaaGreatQ2
import Derived.Lib.ReflectliteSwap
import Derived.Test.YtgimkmclgjfddaaGreatQ4
import Derived.Laws.OwnMore
import Derived.WalkKit
import Derived.ProofKit
import Derived.Deep.MidRow
import Derived.Carry
import Derived.OrdersHeld
set_option linter.unusedSimpArgs false
set_option linter.unusedVariables false
set_option maxRecDepth 100000
set_option maxHeartbeats 4000000
namespace Go.Proofs.YtgimkmclgjfddaaGreat
open Go Go.RowKit
structure aa (S:List Nat) (w w':World):Prop where
 os:w'.os=w.os
 tape:w'.tape=w.tape
 output:w'.output=w.output
 size:w.heap.size≤w'.heap.size
 block:∀k,k<w.heap.size→k∉S→w'.heap[k]?=w.heap[k]?
section
variable {S T:List Nat} {a u v w w':World}
theorem aa.refl (S:List Nat) (w:World):aa S w w:=⟨rfl,rfl,rfl,Nat.le_refl _,fun _ _ _=>rfl⟩
theorem aa.trans (h:aa S u v) (k:aa S v w):aa S u w:=
 ⟨by rw[k.os,h.os],by rw[k.tape,h.tape],by rw[k.output,h.output],Nat.le_trans h.size k.size,fun i hi hs=>by rw[k.block i (Nat.lt_of_lt_of_le hi h.size) hs,h.block i hi hs]⟩
theorem aa.mono (h:aa S u v) (hs:∀x,x∈S→x∈T):aa T u v:=
 ⟨h.os,h.tape,h.output,h.size,fun i hi hn=>h.block i hi (fun e=>hn (hs i e))⟩
theorem aa.fresh (h:aa S u v) (hs:∀x,x∈S→x<u.heap.size→x∈T):aa T u v:=
 ⟨h.os,h.tape,h.output,h.size,fun i hi hn=>h.block i hi (fun e=>hn (hs i e hi))⟩
theorem aa.of_below {B:Nat} (h:Below B u v) (hB:u.heap.size≤B):aa S u v:=
 ⟨h.os,h.tape,h.output,h.size,fun i hi _=>h.block i (by omega)⟩
theorem aa.of_kept {b:Nat} (h:Kept b u v) (hb:b∈S):aa S u v:=
 ⟨h.os,h.tape,h.output,h.size,fun i hi hn=>h.block i hi (fun e=>hn (e ▸ hb))⟩
theorem aa.setCell (h:aa S u v) {b:Nat} (hb:b∈S∨u.heap.size≤b) (i:Nat) (x:Value):aa S u (v.setCell ⟨b,i,none⟩ x):=
 ⟨h.os,h.tape,h.output,by have:=h.size;simpa[World.setCell]using this,fun k hk hn=>by
   have hne:k≠b:=by
    intro e
    rcases hb with hb|hb
    ·exact hn (e ▸ hb)
    ·omega
   rw[Below.heap_setCell _ _ _ _ hne]
   exact h.block k hk hn⟩
theorem aa.alloc (h:aa S u v) (o:Obj):aa S u (v.alloc o):=
 ⟨h.os,h.tape,h.output,by have:=h.size;simp;omega,fun k hk hn=>by rw[Below.heap_alloc _ _ _ (by have:=h.size;omega)];exact h.block k hk hn⟩
theorem aa.drewN (h:aa S u v) (n:Nat):aa S u (v.drewN n):=⟨h.os,h.tape,h.output,h.size,h.block⟩
theorem aa.drew (h:aa S u v):aa S u v.drew:=⟨h.os,h.tape,h.output,h.size,h.block⟩
theorem aa.below {B:Nat} (h:aa S u v) (hb:Below B a u) (hS:∀x,x∈S→B≤x) (hB:B≤u.heap.size):Below B a v:=
 hb.trans ⟨h.os,h.tape,h.output,h.size,fun k hk=>h.block k (by omega) (fun e=>absurd (hS k e) (by omega))⟩
theorem aa.blk (h:aa S u v) {b:Nat} {c:List Value} {t:TypeId} (hb:ab u b c t) (hn:b∉S):ab v b c t:=by
 have hl:=hb.lt
 unfold ab at hb ⊢
 rw[h.block b hl hn,hb]
theorem aa.cell (h:aa S u v) {b i:Nat} (hl:b<u.heap.size) (hn:b∉S):v.cell? ⟨b,i,none⟩=u.cell? ⟨b,i,none⟩:=by
 simp only[World.cell?,h.block b hl hn]
end
section
variable {P:Program} {ops:Array Oper} {rest:List Oper} {o:Oper} {a:Act} {w:World} {Q:Exit→Act→World→Prop}
theorem al (ty:TypeId) (x y:Operand) (b i:Nat) (v:Value) (cs:List Value) (t:TypeId) (hb:ab w b cs t) (hil:i<cs.length) (hi:(P.info? ty).map (·.size)=some 1) (h1:v.oneCell'=true)
  (hgd:o.guard=none) (ho:o.op= .store ty x y) (hx:a.eval x= .pointer (some ⟨b,i,none⟩)) (hy:a.eval y=v)
  (h:∀w',ab w' b (cs.set i v) t→cz b w w'→wpList P ops Q rest (a.put o.dst undef) w'):wpList P ops Q (o::rest) a w:=by
 cases hie:P.info? ty with
 |none=>simp[hie]at hi
 |some ie=>
  have hs:ie.size=1:=by simpa[hie]using hi
  refine wpList_plain hgd fun K hK=> ?_
  unfold Oper.wp execOp
  have hr:=Lib.rl_storeVar_one (P:=P) ty ie hie hs ⟨b,i,none⟩ v _ h1 w (hb.cell (List.getElem?_eq_getElem hil)) (hb.free i)
  simp only[ho,hx,hy,Instr.storeAt,Instr.sureAddr,Sem.run_bind,Sem.run_pure,Result.andThen_ok,hr]
  exact hK _ _ (h _ (hb.set i v) ((cz.refl b w).setCell i v))
end
section
variable {P:Program} {ops:Array Oper} {rest:List Oper} {o:Oper} {a:Act} {w:World} {Q:Exit→Act→World→Prop}
theorem qF {b:Nat} {c:List Value} {t:TypeId} (h:ab w b c t) {off n:Nat} (hn:off+n≤c.length):w.there b off n:=fun j hj=>
 ⟨by rw[h.cell?,List.getElem?_eq_getElem (by omega)];simp,h.free _⟩
theorem bM (ty:TypeId) (x y:Operand) (b off:Nat) (vs:List Value) (cs:List Value) (t:TypeId) (hb:ab w b cs t) (hl:off+vs.length≤cs.length)
  (hi:(P.info? ty).map (·.size)=some vs.length) (h1:∀v∈vs,v.oneCell'=true)
  (hgd:o.guard=none) (ho:o.op= .store ty x y) (hx:a.eval x= .pointer (some ⟨b,off,none⟩)) (hy:a.eval y= .agg vs.toArray)
  (h:∀w',ab w' b (cs.take off++vs++cs.drop (off+vs.length)) t→cz b w w'→wpList P ops Q rest (a.put o.dst undef) w'):wpList P ops Q (o::rest) a w:=
 wpList_store_mid hgd ty x y ho b off vs.toArray hx hy (qF hb (by simpa using hl)) (by simpa using hi) (all_oneCell_toArray h1) (by simpa using h _ (hb.setCells vs off hl) ((cz.refl b w).setCells vs off))
end
section
variable {P:Program} {ops:Array Oper} {rest:List Oper} {o:Oper} {a:Act} {w:World} {Q:Exit→Act→World→Prop}
theorem pH (t e:TypeId) (x y:Operand) (n:Nat) (d:Option Tmp) (L:Int)
  (ht:P.underlying t=some (.slice e)) (hi:(P.info? e).map (fun i=>(i.zero,i.size,i.bytes))=some (some (.string ⟨#[]⟩),1,16))
  (hn:n≤1048576) (hL:L=(n:Int))
  (hg:o.guard=none) (ho:o.op= .makeSlice t x y) (hdst:o.dst=d) (hx:a.eval x= .int .i64 L) (hy:a.eval y= .int .i64 L)
  (h:∀g w',w.heap.size≤g→ab w' g (List.replicate n (.string ⟨#[]⟩)) e→Below g w w'→g<w'.heap.size→wpList P ops Q rest (a.put d (.slice (some ⟨g,0,none⟩) n n)) w'):
  wpList P ops Q (o::rest) a w:=by
 subst hdst hL
 refine wpList_plain hg fun K hK=> ?_
 cases hq:P.info? e with
 |none=>simp[hq]at hi
 |some i=>
  simp only[hq,Option.map_some,Option.some.injEq,Prod.mk.injEq]at hi
  obtain⟨i1,i2,i3⟩:=hi
  have:=run_make (P:=P) w t e i _ ht hq i1 .i64 .i64 (n:Int) (n:Int) (by omega) (by omega) (by rw[i3];omega) (by omega)
  unfold Oper.wp execOp
  simp only[ho,hx,hy,Sem.run_bind,this,Result.andThen_ok,Sem.run_pure]
  rw[i2,Int.toNat_natCast,Nat.mul_one]
  have e1:(madeCells (Value.cells (.string ⟨#[]⟩)) n)=(List.replicate n (Value.string ⟨#[]⟩)).toArray:=by
   have:=toList_madeCells_one (.string ⟨#[]⟩) n
   apply Array.toList_inj.1
   rw[show Value.cells (.string ⟨#[]⟩)=#[.string ⟨#[]⟩]from rfl,this]
  rw[e1]
  exact hK _ _ (h _ _ (Nat.le_refl _) (ab.new w _ e) ((Below.refl _ _).alloc (Nat.le_refl _) _) (by simp))
end
def aJ (S:List Nat) (w:World) (v:Value) (xs:List ByteArray):Prop:=
 (xs=[]∧∃(p:Option Addr) (c:Nat),v= .slice p 0 c)∨
 ∃g o c,v= .slice (some ⟨g,o,none⟩) xs.length c∧g<w.heap.size∧g∉S∧∀(j:Nat) (x:ByteArray),xs[j]?=some x→w.cell? ⟨g,o+j,none⟩=some (.string x)
theorem aJ.turned {S:List Nat} {w w':World} {v:Value} {xs:List ByteArray} (h:aJ S w v xs) (ht:aa S w w'):aJ S w' v xs:=by
 rcases h with h1|⟨g,o,c,h1,h2,h3,h4⟩
 ·exact .inl h1
 ·exact .inr ⟨g,o,c,h1,Nat.lt_of_lt_of_le h2 ht.size,h3,fun j x hx=>by rw[ht.cell h2 h3];exact h4 j x hx⟩
theorem aJ.nil (S:List Nat) (w:World):aJ S w (.slice none 0 0) []:= .inl ⟨rfl,_,_,rfl⟩
theorem aJ.shape {S:List Nat} {w:World} {v:Value} {xs:List ByteArray} (h:aJ S w v xs):∃(p:Option Addr) (c:Nat),v= .slice p xs.length c:=by
 rcases h with⟨h1,p,c,h2⟩|⟨g,o,c,h1,_⟩
 ·subst h1;exact⟨p,c,h2⟩
 ·exact⟨_,_,h1⟩
theorem aJ.sub {S T:List Nat} {w:World} {v:Value} {xs:List ByteArray} (h:aJ S w v xs) (hs:∀x,x∈T→x∈S):aJ T w v xs:=
 h.imp id fun⟨g,o,c,h1,h2,h3,h4⟩=>⟨g,o,c,h1,h2,fun hm=>h3 (hs g hm),h4⟩
def aN (w:World) (v:Value) (xs:List ByteArray):Prop:=aJ [] w v xs
theorem aN.below {w w':World} {v:Value} {xs:List ByteArray} (h:aN w v xs) {B:Nat} (hb:Below B w w') (hB:w.heap.size≤B):aN w' v xs:=
 aJ.turned h (aa.of_below hb hB)
theorem aN.shape {w:World} {v:Value} {xs:List ByteArray} (h:aN w v xs):∃(p:Option Addr) (c:Nat),v= .slice p xs.length c:=aJ.shape h
theorem cz.turned {b:Nat} {S:List Nat} {w w':World} (h:cz b w w') (hb:b∈S):aa S w w':=
 ⟨h.os,h.tape,h.output,Nat.le_of_eq h.size.symm,fun k _ hn=>h.block k (fun e=>hn (e ▸ hb))⟩
section
variable {S:List Nat} {w w':World} {base:Nat} {e:TypeId} {size:Nat} {v:Value} {n:Nat} {xs:List Value}
theorem aa.of_grown {row:Option Nat} (h:w.grownBy w' row) (hS:∀k,row=some k→k∈S):aa S w w':=
 ⟨h.os,h.tape,h.output,h.size,fun k hk hn=>h.block k hk (fun he=>hn (hS k he.symm))⟩
theorem aa.on {T:List Nat} {u v:World} (h:aa S u v) (k:aa T v w) (hT:∀x,x∈T→x∈S∨u.heap.size≤x):aa S u w:=
 ⟨by rw[k.os,h.os],by rw[k.tape,h.tape],by rw[k.output,h.output],Nat.le_trans h.size k.size,fun i hi hn=>by
  rw[k.block i (Nat.lt_of_lt_of_le hi h.size) (fun hm=>(hT i hm).elim hn (fun h1=>by omega)),h.block i hi hn]⟩
theorem ak (h:w.ownsRow base e size v n xs) (t:aa S w w') (hn:∀k,v.ownBlock=some k→k∉S):w'.ownsRow base e size v n xs:=by
 refine⟨h.1,h.2.imp id ?_⟩
 rintro⟨g,cap,cur,rfl,h2,h3,h4⟩
 exact⟨g,cap,cur,rfl,h2,by rw[t.block g (Array.getElem?_eq_some_iff.1 h3).1 (hn g rfl)];exact h3,h4⟩
def dY (u:World) (a b:Option Nat):Prop:=b=a∨∀k,b=some k→u.heap.size≤k
theorem vR {P:Program} (t ty:TypeId) (i:TypeInfo) (z:Value) (bytes:Nat) (ht:P.underlying t=some (.slice e)) (hi:P.info? e=some i) (hz:i.zero=some z)
  (hsize:i.size=size) (hby:i.bytes=bytes) (hzs:z.cells.size=size) (hsz:0<size) (hown:w.ownsRow base e size v n xs)
  (a:Addr) (m c:Nat) (news:List Value) (hl:news.length=m*size) (hnews:∀j u,news[j]?=some u→w.cell? (a.add j)=some u) (h1:∀u∈news,u.oneCell'=true)
  (h63:n+m≤maxLen) (hbytes:(n+m)*bytes≤140737488355328) (v':Value) (hr:(Builtin.append_ #[t,t] ty #[v, .slice (some a) m c]).run P w= .ok v' w'):dY w v.ownBlock v'.ownBlock:=by
 subst hsize
 subst hby
 rcases hown.2 with⟨rfl,rfl⟩|⟨g,cap,cur,rfl,hbg,hg,hnc,hcm,hcs,htake⟩
 ·have hx:xs=[]:=List.eq_nil_of_length_eq_zero (by simpa using hown.1)
  subst hx
  obtain⟨v2,w2,hr2,ho2,_⟩:=run_append_own (P:=P) w w.heap.size t ty e i z _ _ ht hi hz rfl rfl hzs hsz (.slice none 0 0) 0 [] (World.ownsRow_nil w _ e _) a m c news hl hnews h1 h63 hbytes (Nat.le_refl _)
  rw[hr]at hr2
  injection hr2 with e1 e2
  subst e1
  exact .inr fun k hk=>(ho2.lt k hk).1
 ·by_cases hroom:n+m≤cap
  ·have hfit:n*i.size+news.length≤cur.size:=by rw[hl,hcs,←Nat.add_mul];exact Nat.mul_le_mul_right _ hroom
   have hr2:=run_append_room (P:=P) w t ty e i ht hi g n cap cur hg a m c news hl hnews h1 hroom hfit
   rw[hr]at hr2
   injection hr2 with e1 e2
   subst e1
   exact .inl rfl
  ·have holds:∀j u,xs[j]?=some u→w.cell? ((⟨g,0,none⟩:Addr).add j)=some u:=hown.cells (g:=g) rfl
   have hr2:=run_append_grow (P:=P) w t ty e i z ht hi hz ⟨g,0,none⟩ n cap xs hown.1 holds a m c news hl hnews (by omega) (by simp only[maxLen]at h63;omega) (growslice_fits (by omega) hbytes)
   rw[hr]at hr2
   injection hr2 with e1 e2
   subst e1
   exact .inr fun k hk=>by simp[Value.ownBlock]at hk;omega
theorem df {P:Program} {o:Oper} {a:Act} {K:Act→World→Prop} {Q:Exit→Act→World→Prop} (s x:Operand) (t:TypeId)
  (ho:o.op= .call {callee:= .builtin .append,args:=#[s,x],argTypes:=#[t,t]})
  (i:TypeInfo) (z:Value) (bytes:Nat) (ht:P.underlying t=some (.slice e)) (hi:P.info? e=some i) (hz:i.zero=some z)
  (hsize:i.size=size) (hby:i.bytes=bytes) (hzs:z.cells.size=size) (hsz:0<size)
  (hs:a.eval s=v) (hown:w.ownsRow base e size v n xs)
  (ad:Addr) (m c:Nat) (news:List Value) (hx:a.eval x= .slice (some ad) m c) (hl:news.length=m*size) (hnews:∀j u,news[j]?=some u→w.cell? (ad.add j)=some u) (h1:∀u∈news,u.oneCell'=true)
  (h63:n+m≤maxLen) (hbytes:(n+m)*bytes≤140737488355328) (hbase:base≤w.heap.size)
  (h:∀v' w',w'.ownsRow base e size v' (n+m) (xs++news)→w.grownBy w' v.ownBlock→dY w v.ownBlock v'.ownBlock→K (a.put o.dst v') w'):o.wp P a w K Q:=by
 obtain⟨v',w',hr,h2,h3,_⟩:=run_append_own (P:=P) w base t o.type e i z size bytes ht hi hz hsize hby hzs hsz v n xs hown ad m c news hl hnews h1 h63 hbytes hbase
 have h4:=vR t o.type i z bytes ht hi hz hsize hby hzs hsz hown ad m c news hl hnews h1 h63 hbytes v' hr
 unfold Oper.wp execOp
 simp only[ho,resolve,invoke,builtin,Sem.run_bind,Sem.run_pure,Result.andThen_ok,List.map_toArray,List.map_cons,List.map_nil,hs,hx,hr]
 exact h v' w' h2 h3 h4
theorem fF {P:Program} {ops:Array Oper} {rest:List Oper} {o:Oper} {a:Act} {Q:Exit→Act→World→Prop} (s x:Operand) (t:TypeId) (hgd:Region.wanted o (yielded ops a.tmps)=true)
  (ho:o.op= .call {callee:= .builtin .append,args:=#[s,x],argTypes:=#[t,t]})
  (i:TypeInfo) (z:Value) (bytes:Nat) (ht:P.underlying t=some (.slice e)) (hi:P.info? e=some i) (hz:i.zero=some z)
  (hsize:i.size=size) (hby:i.bytes=bytes) (hzs:z.cells.size=size) (hsz:0<size)
  (hs:a.eval s=v) (hown:w.ownsRow base e size v n xs)
  (ad:Addr) (m c:Nat) (news:List Value) (hx:a.eval x= .slice (some ad) m c) (hl:news.length=m*size) (hnews:∀j u,news[j]?=some u→w.cell? (ad.add j)=some u) (h1:∀u∈news,u.oneCell'=true)
  (h63:n+m≤maxLen) (hbytes:(n+m)*bytes≤140737488355328) (hbase:base≤w.heap.size)
  (h:∀v' w',w'.ownsRow base e size v' (n+m) (xs++news)→w.grownBy w' v.ownBlock→dY w v.ownBlock v'.ownBlock→wpList P ops Q rest (a.put o.dst v') w'):wpList P ops Q (o::rest) a w:=
 wpList_step fun K hK=>by
  simp only[hgd,if_true]
  exact df s x t ho i z bytes ht hi hz hsize hby hzs hsz hs hown ad m c news hx hl hnews h1 h63 hbytes hbase fun v' w' h2 h3 h4=>hK _ _ (h v' w' h2 h3 h4)
theorem rq {P:Program} {ops:Array Oper} {o:Oper} {a:Act} {K:Act→World→Prop} {Q:Exit→Act→World→Prop} {E:Prop}
  (hgd:o.guard=none) (s x:Operand) (t:TypeId)
  (ho:o.op= .call {callee:= .builtin .append,args:=#[s,x],argTypes:=#[t,t]})
  (i:TypeInfo) (z:Value) (bytes:Nat) (ht:P.underlying t=some (.slice e)) (hi:P.info? e=some i) (hz:i.zero=some z)
  (hsize:i.size=size) (hby:i.bytes=bytes) (hzs:z.cells.size=size) (hsz:0<size)
  (hs:a.eval s=v) (hown:w.ownsRow base e size v n xs)
  (ad:Addr) (m c:Nat) (news:List Value) (hx:a.eval x= .slice (some ad) m c) (hl:news.length=m*size) (hnews:∀j u,news[j]?=some u→w.cell? (ad.add j)=some u) (h1:∀u∈news,u.oneCell'=true)
  (h63:n+m≤maxLen) (hbytes:(n+m)*bytes≤140737488355328) (hbase:base≤w.heap.size)
  (h:∀v' w',w'.ownsRow base e size v' (n+m) (xs++news)→w.grownBy w' v.ownBlock→dY w v.ownBlock v'.ownBlock→K (a.put o.dst v') w'):
  if Region.wanted o (yielded ops a.tmps)=true then Oper.wp P o a w K Q else E:=by
 have hw:Region.wanted o (yielded ops a.tmps)=true:=by simp[Region.wanted,hgd]
 rw[if_pos hw]
 exact df s x t ho i z bytes ht hi hz hsize hby hzs hsz hs hown ad m c news hx hl hnews h1 h63 hbytes hbase h
end
section
variable {P:Program} {ops:Array Oper} {rest:List Oper} {o:Oper} {a:Act} {w:World} {Q:Exit→Act→World→Prop}
theorem ae (ty:TypeId) (x:Operand) (b off:Nat) (cs:List Value) (d:TypeDesc) (dst:Option Tmp) (hb:w.rangeAt b off cs)
  (hu:P.underlying ty=some d) (hd:d.isRow=true) (hi:(P.info? ty).map (·.size)=some cs.length)
  (hg:Region.wanted o (yielded ops a.tmps)=true) (ho:o.op= .load ty x) (hds:o.dst=dst) (hx:a.eval x= .pointer (some ⟨b,off,none⟩))
  (h:wpList P ops Q rest (a.put dst (.agg cs.toArray)) w):wpList P ops Q (o::rest) a w:=by
 subst hds
 unfold wpList
 rw[if_pos hg]
 refine .inl ?_
 unfold Go.Oper.wp
 have e:(execOp a.eval o).run P w= .ok (.value (.agg cs.toArray)) w:=by
  unfold execOp
  simp only[ho,hx,Instr.loadAt,Instr.sureAddr,Sem.run_bind,Sem.run_pure,Result.andThen_ok,run_loadVar_mid w b off ty cs d hb hu hd hi]
 rw[e]
 exact h
end
structure ao where
 bv:Value
 bs:List ByteArray
 cv:Value
 cs:List (Int×ByteArray)
 down:Bool
 left:Int
def ao.cells (d:ao):List Value:=[d.bv,d.cv, .bool true, .bool d.down, .int .i64 d.left]
def putCells (p:Int×ByteArray):List Value:=[.int .i64 p.1, .string p.2]
def iW (l:List (Int×ByteArray)):List Value:=l.flatMap putCells
theorem vS (l:List (Int×ByteArray)):(iW l).length=l.length*2:=by
 induction l with
 |nil=>rfl
 |cons a r ih=>show(putCells a++iW r).length= _;rw[List.length_append,ih,List.length_cons];show 2+_= _;omega
theorem Az (l:List (Int×ByteArray)) (p:Int×ByteArray):iW (l++[p])=iW l++putCells p:=by simp[iW]
theorem E0 (l:List (Int×ByteArray)):∀(j:Nat) (p:Int×ByteArray),l[j]?=some p→(iW l)[j*2]?=some (.int .i64 p.1)∧(iW l)[j*2+1]?=some (.string p.2):=by
 induction l with
 |nil=>intro j p h;simp at h
 |cons a r ih=>
  intro j p h
  cases j with
  |zero=>simp at h;subst h;exact⟨rfl,rfl⟩
  |succ j=>
   have:=ih j p (by simpa using h)
   show(putCells a++iW r)[(j+1)*2]?= _∧(putCells a++iW r)[(j+1)*2+1]?= _
   rw[List.getElem?_append_right (by show 2≤_;omega),List.getElem?_append_right (by show 2≤_;omega)]
   rw[show(j+1)*2-(putCells a).length=j*2 by show(j+1)*2-2= _;omega,show(j+1)*2+1-(putCells a).length=j*2+1 by show(j+1)*2+1-2= _;omega]
   exact this
def ao.foot (d:ao) (db:Nat):List Nat:=db::(d.bv.ownBlock.toList++d.cv.ownBlock.toList)
structure aD (w:World) (db:Nat) (d:ao):Prop where
 blk:ab w db d.cells 138
 rb:w.ownsRow 0 9 1 d.bv d.bs.length (d.bs.map .string)
 rc:w.ownsRow 0 365 2 d.cv d.cs.length (iW d.cs)
 n1:d.bv.ownBlock≠some db
 n2:d.cv.ownBlock≠some db
 n3:∀g,d.bv.ownBlock=some g→d.cv.ownBlock≠some g
theorem ao.mem1 {d:ao} {db k:Nat} (h:d.bv.ownBlock=some k):k∈d.foot db:=by simp[ao.foot,h]
theorem ao.mem2 {d:ao} {db k:Nat} (h:d.cv.ownBlock=some k):k∈d.foot db:=by simp[ao.foot,h]
theorem aD.turned {S:List Nat} {w w':World} {db:Nat} {d:ao} (h:aD w db d) (t:aa S w w') (hS:∀x,x∈d.foot db→x∉S):aD w' db d:=
 ⟨t.blk h.blk (hS db (by simp[ao.foot])),ak h.rb t (fun k hk=>hS k (ao.mem1 hk)),ak h.rc t (fun k hk=>hS k (ao.mem2 hk)),h.n1,h.n2,h.n3⟩
theorem aD.below {w w':World} {db:Nat} {d:ao} (h:aD w db d) (hb:Below w.heap.size w w'):aD w' db d:=
 h.turned (S:=[]) (aa.of_below hb (Nat.le_refl _)) (by simp)
theorem aD.lt {w:World} {db:Nat} {d:ao} (h:aD w db d):∀x,x∈d.foot db→x<w.heap.size:=by
 intro x hx
 simp only[ao.foot,List.mem_cons,List.mem_append,Option.mem_toList,Option.mem_def]at hx
 rcases hx with rfl|hx|hx
 ·exact h.blk.lt
 ·exact(h.rb.lt x hx).2
 ·exact(h.rc.lt x hx).2
def kF (cs:List (Int×ByteArray)) (i:Int):Nat→Option ByteArray
 |0=>none
 |k+1=>if(cs.getD k (0,ByteArray.empty)).1=i then some (cs.getD k (0,ByteArray.empty)).2 else kF cs i k
def ao.shown (d:ao) (i:Int):ByteArray:=(kF d.cs i d.cs.length).getD (d.bs.getD i.toNat ByteArray.empty)
def ao.step (d:ao):ao:=if 0<d.left then{d with left:=d.left-1,down:=d.left-1==0} else d
structure aZ (w w':World) (db:Nat) (d d':ao):Prop where
 at':aD w' db d'
 turned:aa (d.foot db) w w'
 foot:∀x,x∈d'.foot db→x∈d.foot db∨w.heap.size≤x
theorem aZ.refl {w:World} {db:Nat} {d:ao} (h:aD w db d):aZ w w db d d:=⟨h,aa.refl _ _,fun _ hx=> .inl hx⟩
theorem aZ.trans {u v w:World} {db:Nat} {d d' d'':ao} (h:aZ u v db d d') (k:aZ v w db d' d''):aZ u w db d d'':=
 ⟨k.at',h.turned.on k.turned h.foot,fun x hx=>(k.foot x hx).elim (fun h1=>h.foot x h1) (fun h1=> .inr (Nat.le_trans h.turned.size h1))⟩
theorem aZ.below {u v w:World} {db:Nat} {d d':ao} (h:aZ u v db d d') (hb:Below v.heap.size v w):aZ u w db d d':=
 ⟨h.at'.below hb,h.turned.trans (aa.of_below hb (Nat.le_refl _)),h.foot⟩
theorem aZ.ahead {u v w:World} {db:Nat} {d d':ao} (hb:Below u.heap.size u v) (h:aZ v w db d d'):aZ u w db d d':=
 ⟨h.at',(aa.of_below hb (Nat.le_refl _)).trans h.turned,fun x hx=>(h.foot x hx).elim .inl (fun h1=> .inr (Nat.le_trans hb.size h1))⟩
theorem jt (db:Nat) (d:ao) (w:World) (h:aD w db d):
  Calls Tryz.prog 210 #[.pointer (some ⟨db,0,none⟩)] w fun e w'=>e= .returned (.bool true)∧w=w':=by
 have c2:=h.blk.cell (i:=2) rfl
 go_enter Tryz.func210,Tryz.ntmps210
 go_wp2_with fail
 go_ret
 exact⟨rfl,rfl⟩
theorem nP (db:Nat) (d:ao) (w:World) (h:aD w db d):
  Calls Tryz.prog 216 #[.pointer (some ⟨db,0,none⟩)] w fun e w'=>e= .returned (.int .i64 (if d.down then 14 else 0))∧w=w':=by
 have c3:=h.blk.cell (i:=3) rfl
 obtain⟨q,hq⟩:∃q,d.down=q:=⟨_,rfl⟩
 rw[hq]at c3 ⊢
 cases q with
 |false=>
  go_enter Tryz.func216,Tryz.ntmps216
  go_wp2_with fail
  refine(jt db d _ h).mono ?_
  rintro e w' ⟨rfl,rfl⟩
  go_wp2_with fail
  go_ret
  exact⟨rfl,rfl⟩
 |true=>
  go_enter Tryz.func216,Tryz.ntmps216
  go_wp2_with fail
  refine(jt db d _ h).mono ?_
  rintro e w' ⟨rfl,rfl⟩
  go_wp2_with fail
  go_ret
  exact⟨rfl,rfl⟩
theorem pI {w:World} {db:Nat} {d:ao} (h:aD w db d):∃(p:Option Addr) (c:Nat),d.bv= .slice p d.bs.length c:=aT h.rb
theorem pJ {w:World} {db:Nat} {d:ao} (h:aD w db d):∃(p:Option Addr) (c:Nat),d.cv= .slice p d.cs.length c:=aT h.rc
theorem vT (db:Nat) (d:ao) (w:World) (h:aD w db d) (i:Int):
  Calls Tryz.prog 309 #[.pointer (some ⟨db,0,none⟩), .int .i64 i] w fun e w'=>e= .returned (.bool (decide (0≤i)&&decide (i<d.bs.length)))∧w=w':=by
 have c0:=h.blk.cell (i:=0) rfl
 obtain⟨p,c,hs⟩:=pI h
 rw[hs]at c0
 by_cases h0:0≤i
 ·by_cases h1:i<(d.bs.length:Int)
  ·have h2:=h1
   go_enter Tryz.func309,Tryz.ntmps309
   go_wp2_with fail
   go_ret
   exact⟨by simp[h0,h2],rfl⟩
  ·have h2:(d.bs.length:Int)≤i:=by omega
   go_enter Tryz.func309,Tryz.ntmps309
   go_wp2_with fail
   go_ret
   exact⟨by simp[h0,h1],rfl⟩
 ·have h2:i<0:=by omega
  go_enter Tryz.func309,Tryz.ntmps309
  go_wp2_with fail
  go_ret
  exact⟨by have h3:¬(0≤i):=by omega
           simp[h3],rfl⟩
theorem mN (db:Nat) (d:ao) (w:World) (h:aD w db d):
  Calls Tryz.prog 117 #[.pointer (some ⟨db,0,none⟩)] w fun e w'=>e= .returned (.int .i64 d.bs.length)∧w=w':=by
 have c0:=h.blk.cell (i:=0) rfl
 obtain⟨p,c,hs⟩:=pI h
 rw[hs]at c0
 go_enter Tryz.func117,Tryz.ntmps117
 go_wp2_with fail
 refine(jt db d _ h).mono ?_
 rintro e w' ⟨rfl,rfl⟩
 go_wp2_with fail
 go_ret
 exact⟨rfl,rfl⟩
theorem qG (db:Nat) (d:ao) (w:World) (h:aD w db d):
  Calls Tryz.prog 118 #[.pointer (some ⟨db,0,none⟩)] w fun e w'=>e= .returned (.bool d.down)∧w=w':=by
 have c3:=h.blk.cell (i:=3) rfl
 go_enter Tryz.func118,Tryz.ntmps118
 go_wp2_with fail
 refine(jt db d _ h).mono ?_
 rintro e w' ⟨rfl,rfl⟩
 go_wp2_with fail
 go_ret
 exact⟨rfl,rfl⟩
def ao.placeE (d:ao) (i:Int) (n:Nat):Int:=if(decide (0≤i)&&decide (i<d.bs.length))=true then(if n=4096 then 0 else 2)else 4
theorem xX (db:Nat) (d:ao) (w:World) (h:aD w db d) (i:Int) (s:ByteArray):
  Calls Tryz.prog 310 #[.pointer (some ⟨db,0,none⟩), .int .i64 i, .string s] w fun e w'=>e= .returned (.int .i64 (d.placeE i s.size))∧w=w':=by
 go_enter Tryz.func310,Tryz.ntmps310
 go_wp2_with fail
 refine(vT db d _ h i).mono ?_
 rintro e w' ⟨rfl,rfl⟩
 obtain⟨q,hq⟩:∃q,(decide (0≤i)&&decide (i<(d.bs.length:Int)))=q:=⟨_,rfl⟩
 have HQ:=Lib.hid hq
 rw[hq]
 clear hq
 cases q with
 |false=>
  have HE:=Lib.hid (show d.placeE i s.size=4 by unfold ao.placeE;rw[HQ.out];simp)
  go_wp2_with fail
  go_ret
  exact⟨by rw[HE.out];rfl,rfl⟩
 |true=>
  by_cases hs:s.size=4096
  ·have h1:(s.size:Int)=4096:=by omega
   have HE:=Lib.hid (show d.placeE i s.size=0 by unfold ao.placeE;rw[HQ.out];simp[hs])
   clear hs
   go_wp2_with fail
   go_ret
   exact⟨by rw[HE.out];rfl,rfl⟩
  ·have h1:(s.size:Int)≠4096:=by omega
   have HE:=Lib.hid (show d.placeE i s.size=2 by unfold ao.placeE;rw[HQ.out];simp[hs])
   clear hs
   go_wp2_with fail
   go_ret
   exact⟨by rw[HE.out];rfl,rfl⟩
theorem vU:(Tryz.prog.info? 365).map (fun i=>(i.zero,i.size,i.bytes))=some (some (.agg #[.int .i64 0, .string ⟨#[]⟩]),2,24):=by kernel_rfl
theorem pK:(Tryz.prog.info? 9).map (fun i=>(i.zero,i.size,i.bytes))=some (some (.string ⟨#[]⟩),1,16):=by kernel_rfl
theorem DK:(Tryz.prog.info? 134).map (·.size)=some 1:=by kernel_rfl
theorem E2 {w:World} {base:Nat} {e:TypeId} {size:Nat} {v:Value} {n:Nat} {xs:List Value} (h:w.ownsRow base e size v n xs):v.oneCell'=true:=by obtain⟨p',c',h'⟩:=aT h;rw[h'];rfl
theorem qH (db:Nat) (d:ao) (w:World) (h:aD w db d) (hd:d.down=false) (hl:d.left=0):
  Calls Tryz.prog 217 #[.pointer (some ⟨db,0,none⟩)] w fun e w'=>e= .returned (.bool false)∧w=w':=by
 have c3:=h.blk.cell (i:=3) rfl
 have c4:=h.blk.cell (i:=4) rfl
 rw[hd]at c3
 rw[hl]at c4
 go_enter Tryz.func217,Tryz.ntmps217
 go_wp2_with fail
 go_ret
 exact⟨rfl,rfl⟩
theorem aD.only {w w':World} {db:Nat} {d d':ao} (h:aD w db d) (o:cz db w w') (hb:ab w' db d'.cells 138) (e1:d'.bv=d.bv) (e2:d'.bs=d.bs) (e3:d'.cv=d.cv) (e4:d'.cs=d.cs):aD w' db d':=by
 have t:aa [db] w w':=o.turned (by simp)
 refine⟨hb, ?_, ?_,by rw[e1];exact h.n1,by rw[e3];exact h.n2,by rw[e1,e3];exact h.n3⟩
 ·rw[e1,e2];exact ak h.rb t (fun k hk hm=>h.n1 (by simp at hm;rw[hk,hm]))
 ·rw[e3,e4];exact ak h.rc t (fun k hk hm=>h.n2 (by simp at hm;rw[hk,hm]))
theorem aD.cached {u w w':World} {db:Nat} {d:ao} {v:Value} {l:List (Int×ByteArray)} (h:aD u db d) (hr:w.ownsRow 0 365 2 v l.length (iW l)) (hg:u.grownBy w d.cv.ownBlock) (hn:dY u d.cv.ownBlock v.ownBlock)
  (o:cz db w w') (hb:ab w' db ({d with cv:=v,cs:=l}:ao).cells 138):aZ u w' db d {d with cv:=v,cs:=l}:=by
 have t1:aa (d.foot db) u w:=aa.of_grown hg (fun k hk=>ao.mem2 hk)
 have t2:aa [db] w w':=o.turned (by simp)
 have hvdb:v.ownBlock≠some db:=by
  intro he
  rcases hn with h1|h1
  ·exact h.n2 (by rw[←h1];exact he)
  ·have:=h1 db he;have:=h.blk.lt;omega
 refine⟨⟨hb, ?_, ?_,h.n1,hvdb, ?_⟩, ?_, ?_⟩
 ·refine ak (S:=[db]) ?_ t2 (fun k hk hm=>h.n1 (by simp at hm;rw[hk,hm]))
  exact ak (S:=d.cv.ownBlock.toList) h.rb (aa.of_grown hg (fun k hk=>by simp[hk])) (fun k hk hm=>h.n3 k hk (by simpa using hm))
 ·exact ak hr t2 (fun k hk hm=>hvdb (by simp at hm;rw[hk,hm]))
 ·intro g hgb hgv
  rcases hn with h1|h1
  ·exact h.n3 g hgb (by rw[←h1];exact hgv)
  ·have:=h1 g hgv;have:=(h.rb.lt g hgb).2;omega
 ·exact t1.trans (t2.mono (fun x hx=>by simp at hx;subst hx;simp[ao.foot]))
 ·intro x hx
  simp only[ao.foot,List.mem_cons,List.mem_append,Option.mem_toList,Option.mem_def]at hx ⊢
  rcases hx with hx|hx|hx
  ·exact .inl (.inl hx)
  ·exact .inl (.inr (.inl hx))
  ·rcases hn with h1|h1
   ·exact .inl (.inr (.inr (by rw[←h1];exact hx)))
   ·exact .inr (h1 x hx)
theorem xY (db:Nat) (d:ao) (w:World) (h:aD w db d) (hd:d.down=false) (hl:d.left=0) (hc:d.cs.length<4096) (i:Int) (s:ByteArray) (hi:0≤i) (hi2:i<d.bs.length) (hs:s.size=4096):
  Calls Tryz.prog 214 #[.pointer (some ⟨db,0,none⟩), .int .i64 i, .string s] w fun e w'=>e= .returned (.int .i64 0)∧∃cv',aZ w w' db d {d with cv:=cv',cs:=d.cs++[(i,s)]}:=by
 obtain⟨j0,ji,jz0,jz1,jz2⟩:=info_parts vU
 have HH:=Lib.hid h
 have HE:=Lib.hid (show d.placeE i s.size=0 by unfold ao.placeE;simp[hi,hi2,hs])
 have HC:=Lib.hid hc
 clear h hi hi2 hs hc
 go_enter Tryz.func214,Tryz.ntmps214
 go_wp2_with fail
 refine(nP db d _ HH.out).mono ?_
 rintro e w' ⟨rfl,rfl⟩
 rw[hd]
 go_wp2_with fail
 refine(xX db d _ HH.out i s).mono ?_
 rintro e w' ⟨rfl,rfl⟩
 rw[HE.out]
 have c1:=HH.out.blk.cell (i:=1) rfl
 obtain⟨p,c,hcv⟩:=pJ HH.out
 have HCV:=Lib.hid hcv
 rw[hcv]at c1
 have hlt:(d.cs.length:Int)<4096:=by have:=HC.out;omega
 clear hcv
 have hlen8:1<d.cells.length:=by show 1<5;decide
 go_wp2_with fail
 refine(qH db d _ HH.out hd hl).mono ?_
 rintro e w' ⟨rfl,rfl⟩
 have own1:=HH.out.rc
 rw[HCV.out]at own1
 go_wp2_with (first
  |((with_reducible refine aS 134 365 1 ?parts [.int .i64 i, .string s] (.agg #[.int .i64 0, .string ⟨#[]⟩]) 2 24 (some 39) Tryz.underlying134 vU (by omega) (by omega) ?hgd ?ho ?hd ?hf ?_);(case hgd|ho|hd=>rfl);(case hf=>kernel_rfl);(intro g2 w2 l2 B2 e2 z2);(have own2:=own_below (e2.mono l2) own1))
  |(at_builtin;refine fF _ _ 134 rfl rfl j0 (.agg #[.int .i64 0, .string ⟨#[]⟩]) 24 Tryz.underlying134 ji jz0 jz1 jz2 rfl (by decide) rfl own2 ⟨g2,0,none⟩ 1 1 [.int .i64 i, .string s] rfl rfl (cd B2) (by intro v hv;simp at hv;rcases hv with rfl|rfl<;>rfl) (by unfold maxLen;omega) (by omega) (Nat.zero_le _) ?_;intro v' w3 own3 grow3 near3;have B3:=(HH.out.blk.below e2 (by have:=HH.out.blk.lt;omega)).grown grow3 (by rw[←HCV.out];exact fun he=>HH.out.n2 he.symm))
  |((with_reducible refine al 134 (.tmp 43) (.tmp 40) db 1 v' d.cells 138 B3 hlen8 DK (E2 own3) ?hgd ?ho ?hx ?hy ?_);(case hgd|ho|hx|hy=>rfl);(intro w4 B4 o4))
  |fail)
 go_ret
 refine⟨rfl,v', ?_⟩
 have hA:=HH.out.below (e2.mono l2)
 refine aZ.ahead (e2.mono l2) (hA.cached (l:=d.cs++[(i,s)]) (by rw[List.length_append,Az];exact own3) (by rw[HCV.out];exact grow3) (by rw[HCV.out];exact near3) o4 B4)
theorem aD.block {w:World} {db:Nat} {d:ao} (h:aD w db d) {i:Nat} (hi:i<d.bs.length):∃g c,d.bv= .slice (some ⟨g,0,none⟩) d.bs.length c∧w.cell? ⟨g,i,none⟩=some (.string (d.bs.getD i ByteArray.empty)):=by
 obtain⟨g,cap,z,hv,hc,_,hb⟩:=cY h.rb (by omega)
 refine⟨g,cap,hv,hb.cell ?_⟩
 rw[List.getElem?_append_left (by simpa using hi)]
 simp[List.getD,List.getElem?_eq_getElem hi]
theorem aD.cached_at {w:World} {db:Nat} {d:ao} (h:aD w db d) {k:Nat} (hk:k<d.cs.length):∃g c,d.cv= .slice (some ⟨g,0,none⟩) d.cs.length c∧w.cell? ⟨g,k*2,none⟩=some (.int .i64 (d.cs.getD k (0,ByteArray.empty)).1)∧w.cell? ⟨g,k*2+1,none⟩=some (.string (d.cs.getD k (0,ByteArray.empty)).2):=by
 obtain⟨g,cap,z,hv,hc,_,hb⟩:=cY h.rc (by omega)
 have hg:d.cs.getD k (0,ByteArray.empty)=d.cs[k]:=by simp[List.getD,List.getElem?_eq_getElem hk]
 obtain⟨h1,h2⟩:=E0 d.cs k d.cs[k] (List.getElem?_eq_getElem hk)
 have hl:=vS d.cs
 rw[hg]
 exact⟨g,cap,hv,hb.cell (by rw[List.getElem?_append_left (by omega)];exact h1),hb.cell (by rw[List.getElem?_append_left (by omega)];exact h2)⟩
theorem eV (db:Nat) (d:ao) (w:World) (h:aD w db d) (hd:d.down=false) (i:Nat) (hi:i<d.bs.length) (hc:d.cs.length≤4096) (hb:d.bs.length≤1024):
  Calls Tryz.prog 212 #[.pointer (some ⟨db,0,none⟩), .int .i64 (i:Int)] w fun e w'=>e= .returned (.tuple #[.string (d.shown i), .int .i64 0])∧w=w':=by
 have HH:=Lib.hid h
 obtain⟨n,hn⟩:∃n,d.cs.length=n:=⟨_,rfl⟩
 have HN:=Lib.hid hn
 rw[hn]at hc
 obtain⟨pc,cc,hcv⟩:=pJ h
 have c1:=h.blk.cell (i:=1) rfl
 rw[hcv,hn]at c1
 obtain⟨gb,cb,hbv,hblk⟩:=h.block hi
 have c0:=h.blk.cell (i:=0) rfl
 rw[hbv]at c0
 have HCV:=Lib.hid hcv
 obtain⟨sb,hsb⟩:∃s,d.bs.getD i ByteArray.empty=s:=⟨_,rfl⟩
 rw[hsb]at hblk
 have HSB:=Lib.hid hsb
 clear h hcv hbv hn hsb
 go_enter Tryz.func212,Tryz.ntmps212
 go_wp2_with fail
 refine(nP db d _ HH.out).mono ?_
 rintro e w' ⟨rfl,rfl⟩
 rw[hd]
 go_wp2_with fail
 refine(vT db d _ HH.out (i:Int)).mono ?_
 rintro e w' ⟨rfl,rfl⟩
 have hat:(decide ((0:Int)≤(i:Int))&&decide ((i:Int)<(d.bs.length:Int)))=true:=by simp;omega
 rw[hat]
 have hi0:(0:Int)≤(i:Int):=by omega
 have hi1:(i:Int)<(d.bs.length:Int):=by omega
 clear hat
 go_wp2_with fail
 go_loopw [7] (fun v wr=>∃k:Nat,k≤n∧v= .int .i64 ((k:Int)-1)∧kF d.cs i n=kF d.cs i k∧wr=w) (fun v _=>(intOf v+1).toNat)
 case atStart=>exact⟨n,Nat.le_refl _,rfl,rfl,rfl⟩
 case round=>
  obtain⟨k,hk,rfl,hla,rfl⟩:=hrel
  have HLA:=Lib.hid hla
  clear hla
  cases k with
  |zero=>
   go_wp2_with fail
   go_ret2
   refine⟨?_,rfl⟩
   have e1:d.shown i=sb:=by
    unfold ao.shown
    rw[HN.out,HLA.out,←HSB.out]
    simp[kF]
   rw[e1]
   rfl
  |succ m=>
   have hm:m<d.cs.length:=by rw[HN.out];omega
   obtain⟨g,c,hv,q0,q1⟩:=HH.out.cached_at hm
   rw[show((m+1:Nat):Int)-1=(m:Int) by omega]
   have c1':wr.cell? ⟨db,1,none⟩=some (.slice (some ⟨g,0,none⟩) n c):=by rw[←HN.out,←hv];exact HH.out.blk.cell (i:=1) rfl
   clear c1 hv
   have hm0:(0:Int)≤(m:Int):=by omega
   have hm1:(m:Int)<(n:Int):=by omega
   obtain⟨pa,ps,hps⟩:∃a s,d.cs.getD m (0,ByteArray.empty)=(a,s):=⟨_,_,rfl⟩
   rw[hps]at q0 q1
   simp only at q0 q1
   have HPS:=Lib.hid hps
   clear hps
   by_cases heq:pa=(i:Int)
   ·have HEQ:=Lib.hid heq
    go_wp2_with fail
    go_ret2
    refine⟨?_,rfl⟩
    have e1:d.shown i=ps:=by
     unfold ao.shown
     rw[HN.out,HLA.out]
     unfold kF
     rw[HPS.out,if_pos HEQ.out]
     rfl
    rw[e1]
    rfl
   ·have HEQ:=Lib.hid heq
    go_wp2_with fail
    go_roundw
    case rel=>exact⟨m,by omega,by go_num,by rw[HLA.out,kF,HPS.out,if_neg HEQ.out],by first|rfl|trivial⟩
    case measure=>simp[intOf];try omega
def fi (bs:List ByteArray) (cs:List (Int×ByteArray)):Nat→List ByteArray
 |0=>bs
 |k+1=>(fi bs cs k).set (cs.getD k (0,ByteArray.empty)).1.toNat (cs.getD k (0,ByteArray.empty)).2
theorem dE (bs:List ByteArray) (cs:List (Int×ByteArray)):∀k,(fi bs cs k).length=bs.length
 |0=>rfl
 |k+1=>by unfold fi;rw[List.length_set,dE bs cs k]
theorem aD.stored {w:World} {db:Nat} {d:ao} (h:aD w db d) {g c:Nat} (hv:d.bv= .slice (some ⟨g,0,none⟩) d.bs.length c) (i:Nat) (s:ByteArray):
  aZ w (w.setCell ⟨g,i,none⟩ (.string s)) db d {d with bs:=d.bs.set i s}:=by
 have hr:=h.rb
 rw[hv]at hr
 obtain⟨h1,h2⟩:=hr.stored i (.string s)
 have hgb:d.bv.ownBlock=some g:=by rw[hv];rfl
 have t:aa [g] w (w.setCell ⟨g,i,none⟩ (.string s)):=aa.of_grown h2 (fun k hk=>by injection hk with hk;simp[hk])
 refine⟨⟨t.blk h.blk (by simp;intro he;exact h.n1 (by rw[hgb,he])), ?_,ak h.rc t (fun k hk hm=>by simp at hm;subst hm;exact h.n3 k hgb hk),h.n1,h.n2,h.n3⟩,t.mono (fun x hx=>by simp at hx;subst hx;exact ao.mem1 hgb),fun x hx=> .inl hx⟩
 show World.ownsRow _ 0 _ 1 d.bv (d.bs.set i s).length _
 rw[hv,List.length_set,List.map_set]
 exact h1
theorem aD.uncached {w w':World} {db:Nat} {d:ao} (h:aD w db d) (o:cz db w w') (hb:ab w' db ({d with cv:= .slice none 0 0,cs:=[]}:ao).cells 138):aZ w w' db d {d with cv:= .slice none 0 0,cs:=[]}:=by
 have t:aa [db] w w':=o.turned (by simp)
 refine⟨⟨hb,ak h.rb t (fun k hk hm=>h.n1 (by simp at hm;rw[hk,hm])),World.ownsRow_nil _ _ _ _,h.n1,by simp[Value.ownBlock],fun g _=>by simp[Value.ownBlock]⟩,t.mono (fun x hx=>by simp at hx;subst hx;simp[ao.foot]),fun x hx=> ?_⟩
 simp only[ao.foot,List.mem_cons,List.mem_append,Option.mem_toList,Option.mem_def,Value.ownBlock]at hx ⊢
 rcases hx with hx|hx|hx
 ·exact .inl (.inl hx)
 ·exact .inl (.inr (.inl hx))
 ·cases hx
theorem vV {p:Int×ByteArray}:(Tryz.prog.info? 365).map (·.size)=some (putCells p).length:=by kernel_rfl
theorem E3 (w:World):Sem.run Tryz.prog (zeroValue 365) w= .ok (.agg (putCells (0,⟨#[]⟩)).toArray) w:=by kernel_rfl
theorem vW (p:Int×ByteArray):∀v∈putCells p,v.oneCell'=true:=by intro v hv;simp[putCells]at hv;rcases hv with rfl|rfl<;>rfl
theorem sZ (k:Int) (w:World):
  Calls Tryz.prog 219 #[.int .i64 k] w fun e w'=>e= .returned (.bool true)∧w=w':=by
 go_enter Tryz.func219,Tryz.ntmps219
 go_wp2_with fail
 go_ret
 exact⟨rfl,rfl⟩
def ao.flushed (d:ao):ao:={d with bs:=fi d.bs d.cs d.cs.length,cv:= .slice none 0 0,cs:=[]}
theorem E4 (db:Nat) (d:ao) (w:World) (h:aD w db d) (hc:d.cs.length≤4096) (hb:d.bs.length≤1024) (hin:∀(j:Nat) p,d.cs[j]?=some p→0≤p.1∧p.1<d.bs.length):
  Calls Tryz.prog 218 #[.pointer (some ⟨db,0,none⟩), .func (.func 219) #[] #[]] w fun e w'=>e= .returned (.tuple #[])∧aZ w w' db d d.flushed:=by
 have HH:=Lib.hid h
 have HIN:=Lib.hid hin
 obtain⟨n,hn⟩:∃n,d.cs.length=n:=⟨_,rfl⟩
 have HN:=Lib.hid hn
 rw[hn]at hc
 obtain⟨pc,cc,hcv⟩:=pJ h
 have c1:=h.blk.cell (i:=1) rfl
 rw[hcv,hn]at c1
 have HCV:=Lib.hid hcv
 clear h hcv hn hin
 go_enter Tryz.func218,Tryz.ntmps218
 go_wp2_with fail
 clear c1
 go_loopw [12] (fun i wr=>∃k:Nat,k≤n∧i= .int .i64 k∧aZ w wr db d {d with bs:=fi d.bs d.cs k}) (fun i _=>n-(intOf i).toNat)
 case atStart=>exact⟨0,by omega,rfl,aZ.refl HH.out⟩
 case round=>
  obtain⟨k,hk,rfl,hto⟩:=hrel
  have HT:=Lib.hid hto
  clear hto
  by_cases hlt:k<n
  ·have hlt':(k:Int)<n:=by omega
   have hk0:(0:Int)≤(k:Int):=by omega
   have hkc:k<d.cs.length:=by rw[HN.out];exact hlt
   obtain⟨g,c,hv,q0,q1⟩:=HT.out.at'.cached_at (k:=k) hkc
   obtain⟨at_,data,hpq⟩:∃a s,d.cs.getD k (0,ByteArray.empty)=(a,s):=⟨_,_,rfl⟩
   obtain⟨hi0,hi1⟩:=HIN.out k (at_,data) (by rw[←hpq];simp[List.getD,List.getElem?_eq_getElem hkc])
   obtain⟨i,rfl⟩:∃i:Nat,at_=(i:Int):=⟨at_.toNat,by simp at hi0;omega⟩
   have hpv:pc=some ⟨g,0,none⟩∧cc=c:=by
    have h1:=HCV.out
    have h2:d.cv= .slice (some ⟨g,0,none⟩) d.cs.length c:=hv
    rw[h1]at h2
    injection h2 with h3 _ h4
    exact⟨h3,h4⟩
   obtain⟨rfl,rfl⟩:=hpv
   simp only at hi0 hi1
   have hq:(d.cs.getD k (0,ByteArray.empty))=((i:Int),data):=hpq
   have q0':wr.cell? ⟨g,k*2,none⟩=some (.int .i64 (i:Int)):=by rw[q0];simp only[hq]
   have q1':wr.cell? ⟨g,k*2+1,none⟩=some (.string data):=by rw[q1];simp only[hq]
   have HR:wr.rangeAt g (k*2) (putCells ((i:Int),data)):=by
    intro j u hu
    match j,hu with
    |0,hu=>simp[putCells]at hu;subst hu;simpa using q0'
    |1,hu=>simp[putCells]at hu;subst hu;exact q1'
    |j+2,hu=>simp[putCells]at hu
   have HQ:=Lib.hid hq
   clear q0 q1 q0' q1' hpq hv hq
   go_wp2_with (first
    |((with_reducible refine ae 365 (.tmp 15) g (k*2) (putCells ((i:Int),data)) _ (some 16) HR Tryz.underlying365 rfl vV ?hg ?ho ?hds ?hx ?_);(case ho|hg|hds=>rfl);(case hx=>go_num))
    |((with_reducible refine ai 365 _ E3 (some 5) ?hgd ?ho ?hd ?_);(case hgd|ho|hd=>rfl);(intro b5 w5 l5 B5 e5 z5))
    |((with_reducible refine af 365 (.tmp 5) (.tmp 16) b5 (putCells (0,⟨#[]⟩)) (putCells ((i:Int),data)) 365 B5 rfl vV (vW _) ?hgd ?ho ?hx ?hy ?_);(case hgd|ho|hx|hy=>rfl);(intro w6 B6 o6))
    |fail)
   refine(sZ _ _).mono ?_
   rintro e w' ⟨rfl,rfl⟩
   have hb6:Below wr.heap.size wr w6:=o6.below (e5.mono l5) l5
   have A6:=HT.out.at'.below hb6
   have hil:i<(fi d.bs d.cs k).length:=by rw[dE];omega
   obtain⟨gb,cb,hbv,hblk⟩:=A6.block (i:=i) hil
   have c0:=A6.blk.cell (i:=0) rfl
   have hbv':d.bv= .slice (some ⟨gb,0,none⟩) d.bs.length cb:=by have:=hbv;simp only[dE]at this;exact this
   have c0':w6.cell? ⟨db,0,none⟩=some (.slice (some ⟨gb,0,none⟩) d.bs.length cb):=by rw[←hbv'];exact c0
   have p0:=B6.cell (i:=0) rfl
   have p1:=B6.cell (i:=1) rfl
   have hfz:w6.frozen? ⟨gb,i,none⟩=false:=by
    have hr:=A6.rb
    simp only at hr
    rw[hbv]at hr
    exact hr.frozenAt i
   have hi1':(i:Int)<(d.bs.length:Int):=hi1
   have hi0':(0:Int)≤(i:Int):=by omega
   have HA6:=Lib.hid A6
   have HBV:=Lib.hid hbv'
   have HB6:=Lib.hid hb6
   clear c0 hbv hbv' A6 hb6 B6 o6 e5 B5 HR hi0 hi1 hil
   go_wp2_with fail
   refine bH 10 (by kernel_rfl) (by kernel_rfl) ?_
   simp only[List.take_succ_cons,List.take_zero,List.drop_succ_cons,List.drop_zero]
   iterate 10 still_step
   refine wpStill_nil ?_
   go_wp2_with fail
   go_roundw
   case rel=>
    refine⟨k+1,by omega,by go_num, ?_⟩
    have hA:=HA6.out.below ((Below.refl w6.heap.size w6).drew)
    have hs:=hA.stored (g:=gb) (c:=cb) (by simp only[dE];exact HBV.out) i data
    have ht:=((HT.out.below (HB6.out)).below ((Below.refl w6.heap.size w6).drew)).trans hs
    unfold fi
    rw[HQ.out]
    exact ht
   case measure=>simp[intOf];omega
  ·obtain rfl:k=n:=by omega
   have Bk:=HT.out.at'.blk
   have hlen8:1<(ao.cells {d with bs:=fi d.bs d.cs k}).length:=by show 1<5;decide
   go_wp2_with (first
    |((with_reducible refine al 134 (.tmp 34) (.const (.slice none 0 0)) db 1 (.slice none 0 0) _ 138 Bk hlen8 DK rfl ?hgd ?ho ?hx ?hy ?_);(case hgd|ho|hx|hy=>rfl);(intro w4 B4 o4))
    |fail)
   go_end0
   refine⟨rfl, ?_⟩
   have:=HT.out.trans (HT.out.at'.uncached o4 B4)
   unfold ao.flushed
   rw[HN.out]
   exact this
theorem gQ (db:Nat) (d:ao) (w:World) (h:aD w db d) (hd:d.down=false) (hl:d.left=0) (hc:d.cs.length≤4096) (hb:d.bs.length≤1024) (hin:∀(j:Nat) p,d.cs[j]?=some p→0≤p.1∧p.1<d.bs.length):
  Calls Tryz.prog 124 #[.pointer (some ⟨db,0,none⟩)] w fun e w'=>e= .returned (.int .i64 0)∧aZ w w' db d d.flushed:=by
 have HH:=Lib.hid h
 have HIN:=Lib.hid hin
 clear h hin
 go_enter Tryz.func124,Tryz.ntmps124
 go_wp2_with fail
 refine(nP db d _ HH.out).mono ?_
 rintro e w' ⟨rfl,rfl⟩
 rw[hd]
 go_wp2_with fail
 refine(qH db d _ HH.out hd hl).mono ?_
 rintro e w' ⟨rfl,rfl⟩
 go_wp2_with fail
 refine(E4 db d _ HH.out hc hb HIN.out).mono ?_
 rintro e w2 ⟨rfl,ht⟩
 have HT:=Lib.hid ht
 clear ht
 go_wp2_with fail
 go_ret
 exact⟨rfl,HT.out⟩
end Go.Proofs.YtgimkmclgjfddaaGreat
