/- Worlds that part in some blocks alone. No program in sight. Rows of the call's own: where they lie behind an append, and what becomes of them where some blocks turn. No program in sight. Rows that are empty, whatever they point at: append to them, and of them. No program in sight. -/
import Derived.Test.YtngiibgdgenidaaGreatQ2
import Derived.Lib.ReflectliteSwap
import Derived.Test.YtngiibgdgenidaaGreatQ3
import Derived.Laws.OwnMore
import Derived.Deep.RegionHeld
import Derived.Maps.RangeWalk
import Derived.WalkKit
import Derived.ProofKit
import Derived.Deep.MidRow
set_option linter.unusedSimpArgs false
set_option linter.unusedVariables false
set_option maxRecDepth 100000
set_option maxHeartbeats 4000000
namespace Go.Proofs.YtngiibgdgenidaaGreat
open Go Go.RowKit
structure ab (S:List Nat) (w w':World):Prop where
 os:w'.os=w.os
 tape:w'.tape=w.tape
 output:w'.output=w.output
 size:w.heap.size≤w'.heap.size
 block:∀k,k<w.heap.size→k∉S→w'.heap[k]?=w.heap[k]?
section
variable {S T:List Nat} {a u v w w':World}
theorem ab.refl (S:List Nat) (w:World):ab S w w:=⟨rfl,rfl,rfl,Nat.le_refl _,fun _ _ _=>rfl⟩
theorem ab.trans (h:ab S u v) (k:ab S v w):ab S u w:=
 ⟨by rw[k.os,h.os],by rw[k.tape,h.tape],by rw[k.output,h.output],Nat.le_trans h.size k.size,fun i hi hs=>by rw[k.block i (Nat.lt_of_lt_of_le hi h.size) hs,h.block i hi hs]⟩
theorem ab.mono (h:ab S u v) (hs:∀x,x∈S→x∈T):ab T u v:=
 ⟨h.os,h.tape,h.output,h.size,fun i hi hn=>h.block i hi (fun e=>hn (hs i e))⟩
theorem ab.fresh (h:ab S u v) (hs:∀x,x∈S→x<u.heap.size→x∈T):ab T u v:=
 ⟨h.os,h.tape,h.output,h.size,fun i hi hn=>h.block i hi (fun e=>hn (hs i e hi))⟩
theorem ab.of_below {B:Nat} (h:Below B u v) (hB:u.heap.size≤B):ab S u v:=
 ⟨h.os,h.tape,h.output,h.size,fun i hi _=>h.block i (by omega)⟩
theorem ab.of_kept {b:Nat} (h:Kept b u v) (hb:b∈S):ab S u v:=
 ⟨h.os,h.tape,h.output,h.size,fun i hi hn=>h.block i hi (fun e=>hn (e ▸ hb))⟩
theorem ab.setCell (h:ab S u v) {b:Nat} (hb:b∈S∨u.heap.size≤b) (i:Nat) (x:Value):ab S u (v.setCell ⟨b,i,none⟩ x):=
 ⟨h.os,h.tape,h.output,by have:=h.size;simpa[World.setCell]using this,fun k hk hn=>by
   have hne:k≠b:=by
    intro e
    rcases hb with hb|hb
    ·exact hn (e ▸ hb)
    ·omega
   rw[Below.heap_setCell _ _ _ _ hne]
   exact h.block k hk hn⟩
theorem ab.alloc (h:ab S u v) (o:Obj):ab S u (v.alloc o):=
 ⟨h.os,h.tape,h.output,by have:=h.size;simp;omega,fun k hk hn=>by rw[Below.heap_alloc _ _ _ (by have:=h.size;omega)];exact h.block k hk hn⟩
theorem ab.drewN (h:ab S u v) (n:Nat):ab S u (v.drewN n):=⟨h.os,h.tape,h.output,h.size,h.block⟩
theorem ab.drew (h:ab S u v):ab S u v.drew:=⟨h.os,h.tape,h.output,h.size,h.block⟩
theorem ab.below {B:Nat} (h:ab S u v) (hb:Below B a u) (hS:∀x,x∈S→B≤x) (hB:B≤u.heap.size):Below B a v:=
 hb.trans ⟨h.os,h.tape,h.output,h.size,fun k hk=>h.block k (by omega) (fun e=>absurd (hS k e) (by omega))⟩
theorem ab.blk (h:ab S u v) {b:Nat} {c:List Value} {t:TypeId} (hb:ac u b c t) (hn:b∉S):ac v b c t:=by
 have hl:=hb.lt
 unfold ac at hb ⊢
 rw[h.block b hl hn,hb]
theorem ab.cell (h:ab S u v) {b i:Nat} (hl:b<u.heap.size) (hn:b∉S):v.cell? ⟨b,i,none⟩=u.cell? ⟨b,i,none⟩:=by
 simp only[World.cell?,h.block b hl hn]
end
section
variable {P:Program} {ops:Array Oper} {rest:List Oper} {o:Oper} {a:Act} {w:World} {Q:Exit→Act→World→Prop}
theorem aj (ty:TypeId) (x y:Operand) (b i:Nat) (v:Value) (cs:List Value) (t:TypeId) (hb:ac w b cs t) (hil:i<cs.length) (hi:(P.info? ty).map (·.size)=some 1) (h1:v.oneCell'=true)
  (hgd:o.guard=none) (ho:o.op= .store ty x y) (hx:a.eval x= .pointer (some ⟨b,i,none⟩)) (hy:a.eval y=v)
  (h:∀w',ac w' b (cs.set i v) t→bH b w w'→wpList P ops Q rest (a.put o.dst undef) w'):wpList P ops Q (o::rest) a w:=by
 cases hie:P.info? ty with
 |none=>simp[hie]at hi
 |some ie=>
  have hs:ie.size=1:=by simpa[hie]using hi
  refine wpList_plain hgd fun K hK=> ?_
  unfold Oper.wp execOp
  have hr:=Lib.rl_storeVar_one (P:=P) ty ie hie hs ⟨b,i,none⟩ v _ h1 w (hb.cell (List.getElem?_eq_getElem hil)) (hb.free i)
  simp only[ho,hx,hy,Instr.storeAt,Instr.sureAddr,Sem.run_bind,Sem.run_pure,Result.andThen_ok,hr]
  exact hK _ _ (h _ (hb.set i v) ((bH.refl b w).setCell i v))
end
section
variable {P:Program} {ops:Array Oper} {rest:List Oper} {o:Oper} {a:Act} {w:World} {Q:Exit→Act→World→Prop}
theorem qE {b:Nat} {c:List Value} {t:TypeId} (h:ac w b c t) {off n:Nat} (hn:off+n≤c.length):w.there b off n:=fun j hj=>
 ⟨by rw[h.cell?,List.getElem?_eq_getElem (by omega)];simp,h.free _⟩
theorem bG (ty:TypeId) (x y:Operand) (b off:Nat) (vs:List Value) (cs:List Value) (t:TypeId) (hb:ac w b cs t) (hl:off+vs.length≤cs.length)
  (hi:(P.info? ty).map (·.size)=some vs.length) (h1:∀v∈vs,v.oneCell'=true)
  (hgd:o.guard=none) (ho:o.op= .store ty x y) (hx:a.eval x= .pointer (some ⟨b,off,none⟩)) (hy:a.eval y= .agg vs.toArray)
  (h:∀w',ac w' b (cs.take off++vs++cs.drop (off+vs.length)) t→bH b w w'→wpList P ops Q rest (a.put o.dst undef) w'):wpList P ops Q (o::rest) a w:=
 wpList_store_mid hgd ty x y ho b off vs.toArray hx hy (qE hb (by simpa using hl)) (by simpa using hi) (all_oneCell_toArray h1) (by simpa using h _ (hb.setCells vs off hl) ((bH.refl b w).setCells vs off))
end
section
variable {P:Program} {ops:Array Oper} {rest:List Oper} {o:Oper} {a:Act} {w:World} {Q:Exit→Act→World→Prop}
theorem pI (t e:TypeId) (x y:Operand) (n:Nat) (d:Option Tmp) (L:Int)
  (ht:P.underlying t=some (.slice e)) (hi:(P.info? e).map (fun i=>(i.zero,i.size,i.bytes))=some (some (.string ⟨#[]⟩),1,16))
  (hn:n≤1048576) (hL:L=(n:Int))
  (hg:o.guard=none) (ho:o.op= .makeSlice t x y) (hdst:o.dst=d) (hx:a.eval x= .int .i64 L) (hy:a.eval y= .int .i64 L)
  (h:∀g w',w.heap.size≤g→ac w' g (List.replicate n (.string ⟨#[]⟩)) e→Below g w w'→g<w'.heap.size→wpList P ops Q rest (a.put d (.slice (some ⟨g,0,none⟩) n n)) w'):
  wpList P ops Q (o::rest) a w:=by
 subst hdst hL
 refine wpList_plain hg fun K hK=> ?_
 cases hq:P.info? e with
 |none=>simp[hq]at hi
 |some i=>
  simp only[hq,Option.map_some,Option.some.injEq,Prod.mk.injEq]at hi
  obtain⟨i1,i2,i3⟩:=hi
  have:=run_make (P:=P) w t e i _ ht hq i1 .i64 .i64 (n:Int) (n:Int) (by omega) (by omega) (by rw[i3];omega) (by omega)
  unfold Oper.wp execOp
  simp only[ho,hx,hy,Sem.run_bind,this,Result.andThen_ok,Sem.run_pure]
  rw[i2,Int.toNat_natCast,Nat.mul_one]
  have e1:(madeCells (Value.cells (.string ⟨#[]⟩)) n)=(List.replicate n (Value.string ⟨#[]⟩)).toArray:=by
   have:=toList_madeCells_one (.string ⟨#[]⟩) n
   apply Array.toList_inj.1
   rw[show Value.cells (.string ⟨#[]⟩)=#[.string ⟨#[]⟩]from rfl,this]
  rw[e1]
  exact hK _ _ (h _ _ (Nat.le_refl _) (ac.new w _ e) ((Below.refl _ _).alloc (Nat.le_refl _) _) (by simp))
end
def aC (S:List Nat) (w:World) (v:Value) (xs:List ByteArray):Prop:=
 (xs=[]∧∃(p:Option Addr) (c:Nat),v= .slice p 0 c)∨
 ∃g o c,v= .slice (some ⟨g,o,none⟩) xs.length c∧g<w.heap.size∧g∉S∧∀(j:Nat) (x:ByteArray),xs[j]?=some x→w.cell? ⟨g,o+j,none⟩=some (.string x)
theorem aC.turned {S:List Nat} {w w':World} {v:Value} {xs:List ByteArray} (h:aC S w v xs) (ht:ab S w w'):aC S w' v xs:=by
 rcases h with h1|⟨g,o,c,h1,h2,h3,h4⟩
 ·exact .inl h1
 ·exact .inr ⟨g,o,c,h1,Nat.lt_of_lt_of_le h2 ht.size,h3,fun j x hx=>by rw[ht.cell h2 h3];exact h4 j x hx⟩
theorem aC.nil (S:List Nat) (w:World):aC S w (.slice none 0 0) []:= .inl ⟨rfl,_,_,rfl⟩
theorem aC.shape {S:List Nat} {w:World} {v:Value} {xs:List ByteArray} (h:aC S w v xs):∃(p:Option Addr) (c:Nat),v= .slice p xs.length c:=by
 rcases h with⟨h1,p,c,h2⟩|⟨g,o,c,h1,_⟩
 ·subst h1;exact⟨p,c,h2⟩
 ·exact⟨_,_,h1⟩
theorem aC.sub {S T:List Nat} {w:World} {v:Value} {xs:List ByteArray} (h:aC S w v xs) (hs:∀x,x∈T→x∈S):aC T w v xs:=
 h.imp id fun⟨g,o,c,h1,h2,h3,h4⟩=>⟨g,o,c,h1,h2,fun hm=>h3 (hs g hm),h4⟩
def aX (w:World) (v:Value) (xs:List ByteArray):Prop:=aC [] w v xs
theorem aX.below {w w':World} {v:Value} {xs:List ByteArray} (h:aX w v xs) {B:Nat} (hb:Below B w w') (hB:w.heap.size≤B):aX w' v xs:=
 aC.turned h (ab.of_below hb hB)
theorem aX.shape {w:World} {v:Value} {xs:List ByteArray} (h:aX w v xs):∃(p:Option Addr) (c:Nat),v= .slice p xs.length c:=aC.shape h
theorem bH.turned {b:Nat} {S:List Nat} {w w':World} (h:bH b w w') (hb:b∈S):ab S w w':=
 ⟨h.os,h.tape,h.output,Nat.le_of_eq h.size.symm,fun k _ hn=>h.block k (fun e=>hn (e ▸ hb))⟩
section
variable {S:List Nat} {w w':World} {base:Nat} {e:TypeId} {size:Nat} {v:Value} {n:Nat} {xs:List Value}
theorem ab.of_grown {row:Option Nat} (h:w.grownBy w' row) (hS:∀k,row=some k→k∈S):ab S w w':=
 ⟨h.os,h.tape,h.output,h.size,fun k hk hn=>h.block k hk (fun he=>hn (hS k he.symm))⟩
theorem ab.on {T:List Nat} {u v:World} (h:ab S u v) (k:ab T v w) (hT:∀x,x∈T→x∈S∨u.heap.size≤x):ab S u w:=
 ⟨by rw[k.os,h.os],by rw[k.tape,h.tape],by rw[k.output,h.output],Nat.le_trans h.size k.size,fun i hi hn=>by
  rw[k.block i (Nat.lt_of_lt_of_le hi h.size) (fun hm=>(hT i hm).elim hn (fun h1=>by omega)),h.block i hi hn]⟩
theorem aB (h:w.ownsRow base e size v n xs) (t:ab S w w') (hn:∀k,v.ownBlock=some k→k∉S):w'.ownsRow base e size v n xs:=by
 refine⟨h.1,h.2.imp id ?_⟩
 rintro⟨g,cap,cur,rfl,h2,h3,h4⟩
 exact⟨g,cap,cur,rfl,h2,by rw[t.block g (Array.getElem?_eq_some_iff.1 h3).1 (hn g rfl)];exact h3,h4⟩
def fC (u:World) (a b:Option Nat):Prop:=b=a∨∀k,b=some k→u.heap.size≤k
theorem vM {P:Program} (t ty:TypeId) (i:TypeInfo) (z:Value) (bytes:Nat) (ht:P.underlying t=some (.slice e)) (hi:P.info? e=some i) (hz:i.zero=some z)
  (hsize:i.size=size) (hby:i.bytes=bytes) (hzs:z.cells.size=size) (hsz:0<size) (hown:w.ownsRow base e size v n xs)
  (a:Addr) (m c:Nat) (news:List Value) (hl:news.length=m*size) (hnews:∀j u,news[j]?=some u→w.cell? (a.add j)=some u) (h1:∀u∈news,u.oneCell'=true)
  (h63:n+m≤maxLen) (hbytes:(n+m)*bytes≤140737488355328) (v':Value) (hr:(Builtin.append_ #[t,t] ty #[v, .slice (some a) m c]).run P w= .ok v' w'):fC w v.ownBlock v'.ownBlock:=by
 subst hsize
 subst hby
 rcases hown.2 with⟨rfl,rfl⟩|⟨g,cap,cur,rfl,hbg,hg,hnc,hcm,hcs,htake⟩
 ·have hx:xs=[]:=List.eq_nil_of_length_eq_zero (by simpa using hown.1)
  subst hx
  obtain⟨v2,w2,hr2,ho2,_⟩:=run_append_own (P:=P) w w.heap.size t ty e i z _ _ ht hi hz rfl rfl hzs hsz (.slice none 0 0) 0 [] (World.ownsRow_nil w _ e _) a m c news hl hnews h1 h63 hbytes (Nat.le_refl _)
  rw[hr]at hr2
  injection hr2 with e1 e2
  subst e1
  exact .inr fun k hk=>(ho2.lt k hk).1
 ·by_cases hroom:n+m≤cap
  ·have hfit:n*i.size+news.length≤cur.size:=by rw[hl,hcs,←Nat.add_mul];exact Nat.mul_le_mul_right _ hroom
   have hr2:=run_append_room (P:=P) w t ty e i ht hi g n cap cur hg a m c news hl hnews h1 hroom hfit
   rw[hr]at hr2
   injection hr2 with e1 e2
   subst e1
   exact .inl rfl
  ·have holds:∀j u,xs[j]?=some u→w.cell? ((⟨g,0,none⟩:Addr).add j)=some u:=hown.cells (g:=g) rfl
   have hr2:=run_append_grow (P:=P) w t ty e i z ht hi hz ⟨g,0,none⟩ n cap xs hown.1 holds a m c news hl hnews (by omega) (by simp only[maxLen]at h63;omega) (growslice_fits (by omega) hbytes)
   rw[hr]at hr2
   injection hr2 with e1 e2
   subst e1
   exact .inr fun k hk=>by simp[Value.ownBlock]at hk;omega
theorem dh {P:Program} {o:Oper} {a:Act} {K:Act→World→Prop} {Q:Exit→Act→World→Prop} (s x:Operand) (t:TypeId)
  (ho:o.op= .call {callee:= .builtin .append,args:=#[s,x],argTypes:=#[t,t]})
  (i:TypeInfo) (z:Value) (bytes:Nat) (ht:P.underlying t=some (.slice e)) (hi:P.info? e=some i) (hz:i.zero=some z)
  (hsize:i.size=size) (hby:i.bytes=bytes) (hzs:z.cells.size=size) (hsz:0<size)
  (hs:a.eval s=v) (hown:w.ownsRow base e size v n xs)
  (ad:Addr) (m c:Nat) (news:List Value) (hx:a.eval x= .slice (some ad) m c) (hl:news.length=m*size) (hnews:∀j u,news[j]?=some u→w.cell? (ad.add j)=some u) (h1:∀u∈news,u.oneCell'=true)
  (h63:n+m≤maxLen) (hbytes:(n+m)*bytes≤140737488355328) (hbase:base≤w.heap.size)
  (h:∀v' w',w'.ownsRow base e size v' (n+m) (xs++news)→w.grownBy w' v.ownBlock→fC w v.ownBlock v'.ownBlock→K (a.put o.dst v') w'):o.wp P a w K Q:=by
 obtain⟨v',w',hr,h2,h3,_⟩:=run_append_own (P:=P) w base t o.type e i z size bytes ht hi hz hsize hby hzs hsz v n xs hown ad m c news hl hnews h1 h63 hbytes hbase
 have h4:=vM t o.type i z bytes ht hi hz hsize hby hzs hsz hown ad m c news hl hnews h1 h63 hbytes v' hr
 unfold Oper.wp execOp
 simp only[ho,resolve,invoke,builtin,Sem.run_bind,Sem.run_pure,Result.andThen_ok,List.map_toArray,List.map_cons,List.map_nil,hs,hx,hr]
 exact h v' w' h2 h3 h4
theorem kF {P:Program} {ops:Array Oper} {rest:List Oper} {o:Oper} {a:Act} {Q:Exit→Act→World→Prop} (s x:Operand) (t:TypeId) (hgd:Region.wanted o (yielded ops a.tmps)=true)
  (ho:o.op= .call {callee:= .builtin .append,args:=#[s,x],argTypes:=#[t,t]})
  (i:TypeInfo) (z:Value) (bytes:Nat) (ht:P.underlying t=some (.slice e)) (hi:P.info? e=some i) (hz:i.zero=some z)
  (hsize:i.size=size) (hby:i.bytes=bytes) (hzs:z.cells.size=size) (hsz:0<size)
  (hs:a.eval s=v) (hown:w.ownsRow base e size v n xs)
  (ad:Addr) (m c:Nat) (news:List Value) (hx:a.eval x= .slice (some ad) m c) (hl:news.length=m*size) (hnews:∀j u,news[j]?=some u→w.cell? (ad.add j)=some u) (h1:∀u∈news,u.oneCell'=true)
  (h63:n+m≤maxLen) (hbytes:(n+m)*bytes≤140737488355328) (hbase:base≤w.heap.size)
  (h:∀v' w',w'.ownsRow base e size v' (n+m) (xs++news)→w.grownBy w' v.ownBlock→fC w v.ownBlock v'.ownBlock→wpList P ops Q rest (a.put o.dst v') w'):wpList P ops Q (o::rest) a w:=
 wpList_step fun K hK=>by
  simp only[hgd,if_true]
  exact dh s x t ho i z bytes ht hi hz hsize hby hzs hsz hs hown ad m c news hx hl hnews h1 h63 hbytes hbase fun v' w' h2 h3 h4=>hK _ _ (h v' w' h2 h3 h4)
theorem rC {P:Program} {ops:Array Oper} {o:Oper} {a:Act} {K:Act→World→Prop} {Q:Exit→Act→World→Prop} {E:Prop}
  (hgd:o.guard=none) (s x:Operand) (t:TypeId)
  (ho:o.op= .call {callee:= .builtin .append,args:=#[s,x],argTypes:=#[t,t]})
  (i:TypeInfo) (z:Value) (bytes:Nat) (ht:P.underlying t=some (.slice e)) (hi:P.info? e=some i) (hz:i.zero=some z)
  (hsize:i.size=size) (hby:i.bytes=bytes) (hzs:z.cells.size=size) (hsz:0<size)
  (hs:a.eval s=v) (hown:w.ownsRow base e size v n xs)
  (ad:Addr) (m c:Nat) (news:List Value) (hx:a.eval x= .slice (some ad) m c) (hl:news.length=m*size) (hnews:∀j u,news[j]?=some u→w.cell? (ad.add j)=some u) (h1:∀u∈news,u.oneCell'=true)
  (h63:n+m≤maxLen) (hbytes:(n+m)*bytes≤140737488355328) (hbase:base≤w.heap.size)
  (h:∀v' w',w'.ownsRow base e size v' (n+m) (xs++news)→w.grownBy w' v.ownBlock→fC w v.ownBlock v'.ownBlock→K (a.put o.dst v') w'):
  if Region.wanted o (yielded ops a.tmps)=true then Oper.wp P o a w K Q else E:=by
 have hw:Region.wanted o (yielded ops a.tmps)=true:=by simp[Region.wanted,hgd]
 rw[if_pos hw]
 exact dh s x t ho i z bytes ht hi hz hsize hby hzs hsz hs hown ad m c news hx hl hnews h1 h63 hbytes hbase h
end
theorem pJ {P:Program} {w:World} (t ty e:TypeId) (i:TypeInfo) (ht:P.underlying t=some (.slice e)) (hi:P.info? e=some i) (p q:Option Addr) (n c:Nat):
  (Builtin.append_ #[t,t] ty #[.slice p 0 n, .slice q 0 c]).run P w= .ok (.slice p 0 n) w:=by
 cases p<;>cases q<;>simp[Builtin.append_,run_underlying ht,sizeOf,typeInfo,hi,Builtin.lenOf,Builtin.firstCells,loadCells,loadCellsFrom,storeCells]
theorem rD {P:Program} {w:World} (t ty e:TypeId) (i:TypeInfo) (z:Value) (size bytes:Nat) (ht:P.underlying t=some (.slice e)) (hi:P.info? e=some i) (hz:i.zero=some z)
  (hsize:i.size=size) (hby:i.bytes=bytes) (hzs:z.cells.size=size) (hsz:0<size) (p:Option Addr)
  (a:Addr) (m c:Nat) (hm:0<m) (news:List Value) (hl:news.length=m*size) (hnews:∀j u,news[j]?=some u→w.cell? (a.add j)=some u) (h1:∀u∈news,u.oneCell'=true)
  (h63:m≤maxLen) (hbytes:m*bytes≤140737488355328):
  ∃v' w',(Builtin.append_ #[t,t] ty #[.slice p 0 0, .slice (some a) m c]).run P w= .ok v' w'∧w'.ownsRow w.heap.size e size v' m news∧w.grownBy w' none:=by
 obtain⟨v',w',hr,ho,hg,_⟩:=run_append_own (P:=P) w w.heap.size t ty e i z size bytes ht hi hz hsize hby hzs hsz (.slice none 0 0) 0 [] (World.ownsRow_nil w _ e _) a m c news hl hnews h1 (by omega) (by rw[Nat.zero_add];exact hbytes) (Nat.le_refl _)
 cases p with
 |none=>exact⟨v',w',hr,by simpa using ho,hg⟩
 |some b=>
  refine⟨v',w', ?_,by simpa using ho,hg⟩
  rw[←hr]
  have h63':((0+m:Nat):Int)≤9223372036854775807:=by simp only[maxLen]at h63;omega
  subst hsize;subst hby
  rw[run_append_grow (P:=P) w t ty e i z ht hi hz b 0 0 [] (by simp) (by simp) a m c news hl hnews (by omega) h63' (growslice_fits (by omega) (by rw[Nat.zero_add];exact hbytes))]
  rw[run_append_nil (P:=P) w t ty e i z ht hi hz a m c news hl hnews (by omega) (by omega) (by omega)]
  simp
theorem Ar {w:World} {base size n:Nat} {e:TypeId} {v:Value} {xs:List Value} (h:w.ownsRow base e size v n xs):w.ownsRow 0 e size v n xs:=
 ⟨h.1,h.2.imp id fun⟨g,cap,cur,a,_,c⟩=>⟨g,cap,cur,a,Nat.zero_le _,c⟩⟩
section
variable {P:Program} {ops:Array Oper} {rest:List Oper} {o:Oper} {a:Act} {w:World} {K:Act→World→Prop} {Q:Exit→Act→World→Prop} {e:TypeId} {size:Nat}
theorem tH (s x:Operand) (t:TypeId)
  (ho:o.op= .call {callee:= .builtin .append,args:=#[s,x],argTypes:=#[t,t]})
  (i:TypeInfo) (z:Value) (bytes:Nat) (ht:P.underlying t=some (.slice e)) (hi:P.info? e=some i) (hz:i.zero=some z)
  (hsize:i.size=size) (hby:i.bytes=bytes) (hzs:z.cells.size=size) (hsz:0<size) (p:Option Addr) (hs:a.eval s= .slice p 0 0)
  (ad:Addr) (m c:Nat) (hm:0<m) (news:List Value) (hx:a.eval x= .slice (some ad) m c) (hl:news.length=m*size) (hnews:∀j u,news[j]?=some u→w.cell? (ad.add j)=some u) (h1:∀u∈news,u.oneCell'=true)
  (h63:m≤maxLen) (hbytes:m*bytes≤140737488355328)
  (h:∀v' w',w'.ownsRow w.heap.size e size v' m news→w.grownBy w' none→K (a.put o.dst v') w'):o.wp P a w K Q:=by
 obtain⟨v',w',hr,h2,h3⟩:=rD (P:=P) (w:=w) t o.type e i z size bytes ht hi hz hsize hby hzs hsz p ad m c hm news hl hnews h1 h63 hbytes
 unfold Oper.wp execOp
 simp only[ho,resolve,invoke,builtin,Sem.run_bind,Sem.run_pure,Result.andThen_ok,List.map_toArray,List.map_cons,List.map_nil,hs,hx,hr]
 exact h v' w' h2 h3
theorem ot (s x:Operand) (t:TypeId) (hgd:Region.wanted o (yielded ops a.tmps)=true)
  (ho:o.op= .call {callee:= .builtin .append,args:=#[s,x],argTypes:=#[t,t]})
  (i:TypeInfo) (z:Value) (bytes:Nat) (ht:P.underlying t=some (.slice e)) (hi:P.info? e=some i) (hz:i.zero=some z)
  (hsize:i.size=size) (hby:i.bytes=bytes) (hzs:z.cells.size=size) (hsz:0<size) (p:Option Addr) (hs:a.eval s= .slice p 0 0)
  (ad:Addr) (m c:Nat) (hm:0<m) (news:List Value) (hx:a.eval x= .slice (some ad) m c) (hl:news.length=m*size) (hnews:∀j u,news[j]?=some u→w.cell? (ad.add j)=some u) (h1:∀u∈news,u.oneCell'=true)
  (h63:m≤maxLen) (hbytes:m*bytes≤140737488355328)
  (h:∀v' w',w'.ownsRow w.heap.size e size v' m news→w.grownBy w' none→wpList P ops Q rest (a.put o.dst v') w'):wpList P ops Q (o::rest) a w:=
 wpList_step fun K hK=>by
  simp only[hgd,if_true]
  exact tH s x t ho i z bytes ht hi hz hsize hby hzs hsz p hs ad m c hm news hx hl hnews h1 h63 hbytes fun v' w' h2 h3=>hK _ _ (h v' w' h2 h3)
theorem me (s x:Operand) (t:TypeId)
  (ho:o.op= .call {callee:= .builtin .append,args:=#[s,x],argTypes:=#[t,t]})
  (i:TypeInfo) (ht:P.underlying t=some (.slice e)) (hi:P.info? e=some i) (p q:Option Addr) (n c:Nat) (hs:a.eval s= .slice p 0 n) (hx:a.eval x= .slice q 0 c)
  (h:K (a.put o.dst (.slice p 0 n)) w):o.wp P a w K Q:=by
 unfold Oper.wp execOp
 simp only[ho,resolve,invoke,builtin,Sem.run_bind,Sem.run_pure,Result.andThen_ok,List.map_toArray,List.map_cons,List.map_nil,hs,hx,pJ t o.type e i ht hi]
 exact h
theorem pK {E:Prop} (hgd:o.guard=none) (s x:Operand) (t:TypeId)
  (ho:o.op= .call {callee:= .builtin .append,args:=#[s,x],argTypes:=#[t,t]})
  (i:TypeInfo) (ht:P.underlying t=some (.slice e)) (hi:P.info? e=some i) (p q:Option Addr) (n c:Nat) (hs:a.eval s= .slice p 0 n) (hx:a.eval x= .slice q 0 c)
  (h:K (a.put o.dst (.slice p 0 n)) w):if Region.wanted o (yielded ops a.tmps)=true then Oper.wp P o a w K Q else E:=by
 have hw:Region.wanted o (yielded ops a.tmps)=true:=by simp[Region.wanted,hgd]
 rw[if_pos hw]
 exact me s x t ho i ht hi p q n c hs hx h
theorem nH (s x:Operand) (t:TypeId) (hgd:Region.wanted o (yielded ops a.tmps)=true)
  (ho:o.op= .call {callee:= .builtin .append,args:=#[s,x],argTypes:=#[t,t]})
  (i:TypeInfo) (ht:P.underlying t=some (.slice e)) (hi:P.info? e=some i) (p q:Option Addr) (n c:Nat) (hs:a.eval s= .slice p 0 n) (hx:a.eval x= .slice q 0 c)
  (h:wpList P ops Q rest (a.put o.dst (.slice p 0 n)) w):wpList P ops Q (o::rest) a w:=
 wpList_step fun K hK=>by
  simp only[hgd,if_true]
  exact me s x t ho i ht hi p q n c hs hx (hK _ _ h)
end
section
variable {P:Program} {ops:Array Oper} {Q:Exit→Act→World→Prop} {md:Region.Mode} {S:World→Prop} {fuel:Nat} {l:Array Bool} {a a':Act} {w:World} {o:Oper}
theorem hp (i:Nat) {v:Value} (h:wpAnyH P md ops Q S fuel (l.setIfInBounds i true) a' w) (hi:ops[i]?=some o:=by rfl) (hs:Region.noSelect ops=true:=by kernel_rfl)
  (hf:Region.free md ops l i=true:=by kernel_rfl) (hr:(Region.ready md ops l).contains i=true:=by kernel_rfl) (hg:Region.wanted o (yielded ops a.tmps)=true:=by rfl)
  (hy:∀w,S w→(execOp a.eval o).run P w= .ok (.value v) w:=by intro w hSw;(try dsimp only at hSw);go_simp;first|done|with_reducible rfl)
  (hS:S w:=by assumption) (hQ:∀c a w,Q (.panic c) (a.put o.dst v) w→Q (.panic c) a w:=by exact fun _ _ _ h=>h)
  (ha:a.put o.dst v=a':=by conv=>lhs;simp only[Act.put,Array.getInternal_eq_getElem,List.getElem_toArray,List.getElem_cons_succ,List.getElem_cons_zero,List.setIfInBounds_toArray,List.set_cons_zero,List.set_cons_succ]):
  wpAnyH P md ops Q S (fuel+1) l a w:=
 wpAnyH_take hi hs hf hr hQ (.inl ⟨hg,hy⟩) hS (ha ▸ h)
theorem hl (i:Nat) (ty:TypeId) (b off:Nat) (cs:List Value) {x:Operand} {d:TypeDesc} (hR:∀w,S w→w.rangeAt b off cs) (hu:P.underlying ty=some d) (hz:(P.info? ty).map (·.size)=some cs.length)
  (h:wpAnyH P md ops Q S fuel (l.setIfInBounds i true) a' w) (hi:ops[i]?=some o:=by rfl) (hs:Region.noSelect ops=true:=by kernel_rfl)
  (hf:Region.free md ops l i=true:=by kernel_rfl) (hr:(Region.ready md ops l).contains i=true:=by kernel_rfl) (hg:Region.wanted o (yielded ops a.tmps)=true:=by rfl)
  (ho:o.op= .load ty x:=by rfl) (hx:a.eval x= .pointer (some ⟨b,off,none⟩):=by rfl) (hd:d.isRow=true:=by rfl)
  (hS:S w:=by assumption) (hQ:∀c a w,Q (.panic c) (a.put o.dst (.agg cs.toArray)) w→Q (.panic c) a w:=by exact fun _ _ _ h=>h)
  (ha:a.put o.dst (.agg cs.toArray)=a':=by conv=>lhs;simp only[Act.put,Array.getInternal_eq_getElem,List.getElem_toArray,List.getElem_cons_succ,List.getElem_cons_zero,List.setIfInBounds_toArray,List.set_cons_zero,List.set_cons_succ]):wpAnyH P md ops Q S (fuel+1) l a w:=
 wpAnyH_take hi hs hf hr hQ (yieldsIf_load_mid hg ty x ho b off hx cs d hR hu hd hz) hS (ha ▸ h)
theorem hu (i:Nat) (ty:TypeId) (cells:List Value) {parts:Array (Nat×Operand)} (hB:P.built ty (parts.map fun(j,x)=>(j,a.eval x)).toList=some cells.toArray)
  (h:wpAnyH P md ops Q S fuel (l.setIfInBounds i true) a' w) (hi:ops[i]?=some o:=by rfl) (hs:Region.noSelect ops=true:=by kernel_rfl)
  (hf:Region.free md ops l i=true:=by kernel_rfl) (hr:(Region.ready md ops l).contains i=true:=by kernel_rfl) (hg:Region.wanted o (yielded ops a.tmps)=true:=by rfl)
  (ho:o.op= .build ty parts:=by rfl)
  (hS:S w:=by assumption) (hQ:∀c a w,Q (.panic c) (a.put o.dst (.agg cells.toArray)) w→Q (.panic c) a w:=by exact fun _ _ _ h=>h)
  (ha:a.put o.dst (.agg cells.toArray)=a':=by conv=>lhs;simp only[Act.put,Array.getInternal_eq_getElem,List.getElem_toArray,List.getElem_cons_succ,List.getElem_cons_zero,List.setIfInBounds_toArray,List.set_cons_zero,List.set_cons_succ]):wpAnyH P md ops Q S (fuel+1) l a w:=
 wpAnyH_take hi hs hf hr hQ (.inl ⟨hg,fun w _=>by
  unfold execOp
  simp only[ho,Sem.run_bind,run_build w ty _ cells.toArray hB,Result.andThen_ok,Sem.run_pure]⟩) hS (ha ▸ h)
theorem hn (i:Nat) (h:wpAnyH P md ops Q S fuel (l.setIfInBounds i true) a' w) (hi:ops[i]?=some o:=by rfl) (hs:Region.noSelect ops=true:=by kernel_rfl)
  (hf:Region.free md ops l i=true:=by kernel_rfl) (hr:(Region.ready md ops l).contains i=true:=by kernel_rfl) (hg:Region.wanted o (yielded ops a.tmps)=false:=by rfl)
  (hS:S w:=by assumption) (hQ:∀c a w,Q (.panic c) (a.put o.dst undef) w→Q (.panic c) a w:=by exact fun _ _ _ h=>h)
  (ha:a.put o.dst undef=a':=by conv=>lhs;simp only[Act.put,Array.getInternal_eq_getElem,List.getElem_toArray,List.getElem_cons_succ,List.getElem_cons_zero,List.setIfInBounds_toArray,List.set_cons_zero,List.set_cons_succ]):wpAnyH P md ops Q S (fuel+1) l a w:=
 wpAnyH_take hi hs hf hr hQ (.inr ⟨hg,rfl⟩) hS (ha ▸ h)
theorem hc (i:Nat) (h:∀K':Act→World→Prop,Shut (∀a w,S w→(S w→wpAnyH P md ops Q S fuel (l.setIfInBounds i true) a w)→K' a w)→if Region.wanted o (yielded ops a.tmps)=true then Oper.wp P o a w K' Q else K' (a.put o.dst undef) w)
  (ho:ops[i]?=some o:=by conv=>lhs;simp only[List.getElem?_toArray,List.getElem?_cons_succ,List.getElem?_cons_zero]) (hr:Region.ready md ops l=[i]:=by kernel_rfl):wpAnyH P md ops Q S (fuel+1) l a w:=
 wpAnyH_ready hr (by simp) (AllReadyH.cons ho h AllReadyH.nil)
theorem hc2 {o':Oper} (i j:Nat) (h:∀K':Act→World→Prop,Shut (∀a w,S w→(S w→wpAnyH P md ops Q S fuel (l.setIfInBounds i true) a w)→K' a w)→if Region.wanted o (yielded ops a.tmps)=true then Oper.wp P o a w K' Q else K' (a.put o.dst undef) w)
  (h':∀K':Act→World→Prop,Shut (∀a w,S w→(S w→wpAnyH P md ops Q S fuel (l.setIfInBounds j true) a w)→K' a w)→if Region.wanted o' (yielded ops a.tmps)=true then Oper.wp P o' a w K' Q else K' (a.put o'.dst undef) w)
  (ho:ops[i]?=some o:=by conv=>lhs;simp only[List.getElem?_toArray,List.getElem?_cons_succ,List.getElem?_cons_zero]) (ho':ops[j]?=some o':=by conv=>lhs;simp only[List.getElem?_toArray,List.getElem?_cons_succ,List.getElem?_cons_zero]) (hr:Region.ready md ops l=[i,j]:=by kernel_rfl):wpAnyH P md ops Q S (fuel+1) l a w:=
 wpAnyH_ready hr (by simp) (AllReadyH.cons ho h (AllReadyH.cons ho' h' AllReadyH.nil))
theorem hd (h:Q .normal a w) (hr:Region.ready md ops l=[]:=by kernel_rfl):wpAnyH P md ops Q S fuel l a w:=wpAnyH_done hr h _
theorem hb (S:World→Prop) {id:Nat} (hS:S w.drew) (h:S w.drew→wpAnyH P .any ops Q S ops.size (Array.replicate ops.size false) a w.drew) (hm:P.follows .mixedOrders=true:=by kernel_rfl):(Code.region id ops true).wp P Q a w:=
 wp_region_held_drew hm hS h
end
section
variable {P:Program} {ops:Array Oper} {rest:List Oper} {o:Oper} {a:Act} {w:World} {Q:Exit→Act→World→Prop}
theorem ag (ty:TypeId) (x:Operand) (b off:Nat) (cs:List Value) (d:TypeDesc) (dst:Option Tmp) (hb:w.rangeAt b off cs)
  (hu:P.underlying ty=some d) (hd:d.isRow=true) (hi:(P.info? ty).map (·.size)=some cs.length)
  (hg:Region.wanted o (yielded ops a.tmps)=true) (ho:o.op= .load ty x) (hds:o.dst=dst) (hx:a.eval x= .pointer (some ⟨b,off,none⟩))
  (h:wpList P ops Q rest (a.put dst (.agg cs.toArray)) w):wpList P ops Q (o::rest) a w:=by
 subst hds
 unfold wpList
 rw[if_pos hg]
 refine .inl ?_
 unfold Go.Oper.wp
 have e:(execOp a.eval o).run P w= .ok (.value (.agg cs.toArray)) w:=by
  unfold execOp
  simp only[ho,hx,Instr.loadAt,Instr.sureAddr,Sem.run_bind,Sem.run_pure,Result.andThen_ok,run_loadVar_mid w b off ty cs d hb hu hd hi]
 rw[e]
 exact h
end
end Go.Proofs.YtngiibgdgenidaaGreat
