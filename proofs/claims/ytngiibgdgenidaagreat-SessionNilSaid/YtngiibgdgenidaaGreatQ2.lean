/- Plain SHA-256 over lists of bytes and natural numbers, and small laws on it. No program in sight. Blocks of memory known whole, and what stores, new blocks and draws do to them. No program in sight. Slices of bytes that the call itself makes; bytes as a string. No program in sight. -/
import Derived.WalkKit
import Derived.ProofKit
import Derived.Deep.MidRow
import Derived.Deep.Draws
import Derived.StillTailTactics
import Derived.Lib.ConvBytes
import Derived.Great.BuildSlice
import Derived.Laws.AppendOwn
import Derived.Laws.StructEq
import Derived.Test.YtngiibgdgenidaaGreatShelf
import Derived.Shelf.Strings.Repeat
import Derived.Handy
import Derived.Lib.Hide
import Derived.Outline
import Derived.Shelf.Strings.Builder1
import Derived.Shelf.Strings.Builder2
import Derived.Shelf.Lay
set_option linter.unusedSimpArgs false
set_option linter.unusedVariables false
set_option maxRecDepth 100000
set_option maxHeartbeats 4000000
namespace Go.Proofs.YtngiibgdgenidaaGreat
open Go
def dq (x n:Nat):Nat:=(x>>>n|||x<<<(32-n)) % 4294967296
def EV (x:Nat):Nat:=dq x 7^^^dq x 18^^^x/8
def EW (x:Nat):Nat:=dq x 17^^^dq x 19^^^x/1024
def IE (a:Nat):Nat:=dq a 2^^^dq a 13^^^dq a 22
def IF (e:Nat):Nat:=dq e 6^^^dq e 11^^^dq e 25
def EX (e f g:Nat):Nat:=(e&&&f)|||((4294967295-e)&&&g)
def EY (a b c:Nat):Nat:=(a&&&b)|||(a&&&c)|||(b&&&c)
def be32 (l:List UInt8) (i:Nat):Nat:=
 (l.getD (4*i) 0).toNat*16777216+(l.getD (4*i+1) 0).toNat*65536+(l.getD (4*i+2) 0).toNat*256+(l.getD (4*i+3) 0).toNat
def fP (l:List UInt8) (ws:List Nat):Nat:=
 if ws.length<16 then be32 l ws.length
 else(ws.getD (ws.length-16) 0+EV (ws.getD (ws.length-15) 0)+ws.getD (ws.length-7) 0+EW (ws.getD (ws.length-2) 0)) % 4294967296
def bh (l:List UInt8):Nat→List Nat
 |0=>[]
 |k+1=>bh l k++[fP l (bh l k)]
def fq:List Nat:=[
 0x428a2f98,0x71374491,0xb5c0fbcf,0xe9b5dba5,0x3956c25b,0x59f111f1,0x923f82a4,0xab1c5ed5,
 0xd807aa98,0x12835b01,0x243185be,0x550c7dc3,0x72be5d74,0x80deb1fe,0x9bdc06a7,0xc19bf174,
 0xe49b69c1,0xefbe4786,0x0fc19dc6,0x240ca1cc,0x2de92c6f,0x4a7484aa,0x5cb0a9dc,0x76f988da,
 0x983e5152,0xa831c66d,0xb00327c8,0xbf597fc7,0xc6e00bf3,0xd5a79147,0x06ca6351,0x14292967,
 0x27b70a85,0x2e1b2138,0x4d2c6dfc,0x53380d13,0x650a7354,0x766a0abb,0x81c2c92e,0x92722c85,
 0xa2bfe8a1,0xa81a664b,0xc24b8b70,0xc76c51a3,0xd192e819,0xd6990624,0xf40e3585,0x106aa070,
 0x19a4c116,0x1e376c08,0x2748774c,0x34b0bcb5,0x391c0cb3,0x4ed8aa4a,0x5b9cca4f,0x682e6ff3,
 0x748f82ee,0x78a5636f,0x84c87814,0x8cc70208,0x90befffa,0xa4506ceb,0xbef9a3f7,0xc67178f2]
structure S8 where
 a:Nat
 b:Nat
 c:Nat
 d:Nat
 e:Nat
 f:Nat
 g:Nat
 h:Nat
def S8.first:S8:=⟨0x6a09e667,0xbb67ae85,0x3c6ef372,0xa54ff53a,0x510e527f,0x9b05688c,0x1f83d9ab,0x5be0cd19⟩
def S8.l (s:S8):List Nat:=[s.a,s.b,s.c,s.d,s.e,s.f,s.g,s.h]
def GH (s:S8) (k w:Nat):Nat:=s.h+IF s.e+EX s.e s.f s.g+k+w
def IG (s:S8):Nat:=IE s.a+EY s.a s.b s.c
def Bj (s:S8) (k w:Nat):S8:=
 ⟨(GH s k w+IG s) % 4294967296,s.a,s.b,s.c,(s.d+GH s k w) % 4294967296,s.e,s.f,s.g⟩
def ly (ws:List Nat) (s:S8):Nat→S8
 |0=>s
 |n+1=>Bj (ly ws s n) (fq.getD n 0) (ws.getD n 0)
def S8.add (x y:S8):S8:=
 ⟨(x.a+y.a) % 4294967296,(x.b+y.b) % 4294967296,(x.c+y.c) % 4294967296,(x.d+y.d) % 4294967296,
  (x.e+y.e) % 4294967296,(x.f+y.f) % 4294967296,(x.g+y.g) % 4294967296,(x.h+y.h) % 4294967296⟩
def yI (s:S8) (blk:List UInt8):S8:=(ly (bh blk 64) s 64).add s
def blocks:Nat→S8→List UInt8→S8
 |0,s,_=>s
 |n+1,s,l=>blocks n (yI s (l.take 64)) (l.drop 64)
def beBytes:Nat→Nat→List UInt8
 |0,_=>[]
 |w+1,n=>beBytes w (n/256)++[UInt8.ofNat (n % 256)]
def jN (n:Nat):List UInt8:=128::(List.replicate (63-(n+8) % 64) 0++beBytes 8 (8*n))
def S8.text (s:S8):List UInt8:=
 beBytes 4 s.a++beBytes 4 s.b++beBytes 4 s.c++beBytes 4 s.d++beBytes 4 s.e++beBytes 4 s.f++beBytes 4 s.g++beBytes 4 s.h
def de (m:List UInt8):List UInt8:=(blocks ((m++jN m.length).length/64) S8.first (m++jN m.length)).text
theorem beBytes_length (w n:Nat):(beBytes w n).length=w:=by
 induction w generalizing n with
 |zero=>rfl
 |succ w ih=>simp[beBytes,ih]
theorem S8.text_length (s:S8):s.text.length=32:=by simp[S8.text,beBytes_length]
theorem cJ (m:List UInt8):(de m).length=32:=S8.text_length _
theorem xl (n:Nat):(jN n).length=72-(n+8) % 64:=by
 simp[jN,beBytes_length];omega
theorem dI (l:List UInt8) (k:Nat):(bh l k).length=k:=by
 induction k with
 |zero=>rfl
 |succ k ih=>simp[bh,ih]
theorem lT (x n:Nat):dq x n<4294967296:=Nat.mod_lt _ (by decide)
theorem uM {a b:Nat} (ha:a<4294967296) (hb:b<4294967296):a^^^b<4294967296:=Nat.xor_lt_two_pow (n:=32) ha hb
theorem Fv {a b:Nat} (ha:a<4294967296) (hb:b<4294967296):a|||b<4294967296:=Nat.or_lt_two_pow (n:=32) ha hb
theorem pB {a b:Nat} (ha:a<4294967296):a&&&b<4294967296:=Nat.lt_of_le_of_lt Nat.and_le_left ha
theorem Fz (l:List UInt8) (i:Nat):be32 l i<4294967296:=by
 have h0:=(l.getD (4*i) 0).toNat_lt
 have h1:=(l.getD (4*i+1) 0).toNat_lt
 have h2:=(l.getD (4*i+2) 0).toNat_lt
 have h3:=(l.getD (4*i+3) 0).toNat_lt
 unfold be32;omega
theorem xm (l:List UInt8) (ws:List Nat):fP l ws<4294967296:=by
 unfold fP;split
 ·exact Fz _ _
 ·exact Nat.mod_lt _ (by decide)
theorem qc (l:List UInt8) (k j:Nat):(bh l k).getD j 0<4294967296:=by
 induction k generalizing j with
 |zero=>simp[bh]
 |succ k ih=>
  simp only[bh,List.getD_eq_getElem?_getD,List.getElem?_append]
  split
  ·have:=ih j;rwa[List.getD_eq_getElem?_getD]at this
  ·cases h:j-(bh l k).length with
   |zero=>simp[xm]
   |succ n=>simp
def S8.ok (s:S8):Prop:=s.a<4294967296∧s.b<4294967296∧s.c<4294967296∧s.d<4294967296∧s.e<4294967296∧s.f<4294967296∧s.g<4294967296∧s.h<4294967296
theorem S8.first_ok:S8.first.ok:=by unfold S8.ok S8.first;decide
theorem GI {s:S8} (h:s.ok) (k w:Nat):(Bj s k w).ok:=by
 obtain⟨h1,h2,h3,h4,h5,h6,h7,h8⟩:=h
 exact⟨Nat.mod_lt _ (by decide),h1,h2,h3,Nat.mod_lt _ (by decide),h5,h6,h7⟩
theorem FA (ws:List Nat) {s:S8} (h:s.ok) (n:Nat):(ly ws s n).ok:=by
 induction n with
 |zero=>exact h
 |succ n ih=>exact GI ih _ _
theorem S8.add_ok (x y:S8):(x.add y).ok:=
 ⟨Nat.mod_lt _ (by decide),Nat.mod_lt _ (by decide),Nat.mod_lt _ (by decide),Nat.mod_lt _ (by decide),Nat.mod_lt _ (by decide),Nat.mod_lt _ (by decide),Nat.mod_lt _ (by decide),Nat.mod_lt _ (by decide)⟩
theorem GK (s:S8) (blk:List UInt8):(yI s blk).ok:=S8.add_ok _ _
theorem rY (n:Nat) {s:S8} (h:s.ok) (l:List UInt8):(blocks n s l).ok:=by
 induction n generalizing s l with
 |zero=>exact h
 |succ n ih=>exact ih (GK _ _) _
theorem sQ (n m:Nat) (s:S8) (x y:List UInt8) (hx:x.length=64*n):blocks (n+m) s (x++y)=blocks m (blocks n s x) y:=by
 induction n generalizing s x with
 |zero=>have:x=[]:=List.eq_nil_of_length_eq_zero (by omega);subst this;simp[blocks]
 |succ n ih=>
  rw[show n+1+m=(n+m)+1 by omega]
  simp only[blocks]
  rw[List.take_append_of_le_length (by omega),List.drop_append_of_le_length (by omega),ih _ _ (by simp;omega)]
theorem xn (n:Nat) (s:S8) (x:List UInt8):blocks n s (x.take (64*n))=blocks n s x:=by
 induction n generalizing s x with
 |zero=>simp[blocks]
 |succ n ih=>
  simp only[blocks]
  rw[List.take_take,Nat.min_eq_left (by omega),List.drop_take,show 64*(n+1)-64=64*n by omega,ih]
theorem qd (e i:Nat) (he:e<4294967296):(4294967295-e).testBit i=(decide (i<32)&& !e.testBit i):=by
 have:=Nat.testBit_two_pow_sub_succ (n:=32) (x:=e) he i
 simpa using this
theorem GL {e f g:Nat} (he:e<4294967296) (hg:g<4294967296):g^^^(e&&&(f^^^g))=EX e f g:=by
 apply Nat.eq_of_testBit_eq
 intro i
 simp only[EX,Nat.testBit_xor,Nat.testBit_and,Nat.testBit_or,qd e i he]
 by_cases hi:i<32
 ·simp[hi];cases e.testBit i<;>cases f.testBit i<;>cases g.testBit i<;>rfl
 ·have h1:e.testBit i=false:=Nat.testBit_lt_two_pow (Nat.lt_of_lt_of_le he (Nat.pow_le_pow_right (n:=2) (by omega) (by omega:32≤i)))
  have h2:g.testBit i=false:=Nat.testBit_lt_two_pow (Nat.lt_of_lt_of_le hg (Nat.pow_le_pow_right (n:=2) (by omega) (by omega:32≤i)))
  simp[h1,h2]
theorem GM (a b c:Nat):(a&&&b)|||(c&&&(a|||b))=EY a b c:=by
 apply Nat.eq_of_testBit_eq
 intro i
 simp only[EY,Nat.testBit_and,Nat.testBit_or]
 cases a.testBit i<;>cases b.testBit i<;>cases c.testBit i<;>rfl
open Go.RowKit
def ac (w:World) (b:Nat) (c:List Value) (t:TypeId):Prop:=w.heap[b]?=some (.cells c.toArray t (0,0))
section
variable {w:World} {b:Nat} {c:List Value} {t:TypeId}
theorem ac.lt (h:ac w b c t):b<w.heap.size:=by
 unfold ac at h
 exact(Array.getElem?_eq_some_iff.1 h).1
theorem ac.cell? (h:ac w b c t) (i:Nat):w.cell? ⟨b,i,none⟩=c[i]?:=by
 unfold ac at h
 simp[World.cell?,h]
theorem ac.cell (h:ac w b c t) {i:Nat} {v:Value} (hi:c[i]?=some v):w.cell? ⟨b,i,none⟩=some v:=by rw[h.cell?,hi]
theorem ac.free (h:ac w b c t) (i:Nat):w.frozen? ⟨b,i,none⟩=false:=by
 unfold ac at h
 simp[World.frozen?,h]
theorem ac.set (h:ac w b c t) (i:Nat) (v:Value):ac (w.setCell ⟨b,i,none⟩ v) b (c.set i v) t:=by
 unfold ac at h ⊢
 simp only[World.setCell,Array.getElem?_modify,h]
 simp
theorem ac.set_other (h:ac w b c t) {a:Addr} (ha:b≠a.block) (v:Value):ac (w.setCell a v) b c t:=by
 unfold ac at h ⊢
 rw[Below.heap_setCell _ _ _ _ ha,h]
theorem ac.alloc (h:ac w b c t) (o:Obj):ac (w.alloc o) b c t:=by
 have:=h.lt
 unfold ac at h ⊢
 rw[Below.heap_alloc _ _ _ this,h]
theorem ac.new (w:World) (c:List Value) (t:TypeId):ac (w.alloc (.cells c.toArray t)) w.heap.size c t:=by
 unfold ac
 show(w.heap.push _)[w.heap.size]?= _
 simp
theorem ac.drewN (h:ac w b c t) (n:Nat):ac (w.drewN n) b c t:=by
 unfold ac at h ⊢
 exact h
theorem ac.drew (h:ac w b c t):ac w.drew b c t:=h
theorem ac.below (h:ac w b c t) {B:Nat} {w':World} (hb:Below B w w') (hB:b<B):ac w' b c t:=by
 unfold ac at h ⊢
 rw[hb.block b hB,h]
theorem ac.ext (h:ac w b c t) {c':List Value} (e:c=c'):ac w b c' t:=e ▸ h
theorem ac.range (h:ac w b c t):w.rangeAt b 0 c:=by
 intro j v hv
 rw[Nat.zero_add]
 exact h.cell hv
end
theorem mr {P:Program} {f:FuncId} {args:Array Value} {w:World} {v:Value} (h:Calls P f args w fun e w'=>e= .returned v∧w=w'):
  Calls P f args w fun e w''=>e= .returned v∧w''=w:=h.mono fun _ _ ⟨a,b⟩=>⟨a,b.symm⟩
theorem World.there_of {w:World} {b:Nat} {c:List Value} {t:TypeId} (h:ac w b c t) {n:Nat} (hn:n=c.length):w.there b 0 n:=by
 intro j hj
 subst hn
 rw[Nat.zero_add]
 exact⟨by rw[h.cell?];simp[hj],h.free j⟩
theorem ac.setCells {b:Nat} {t:TypeId} (vs:List Value):∀{w:World} {c:List Value} (o:Nat),ac w b c t→o+vs.length≤c.length→
  ac (w.setCells b o vs) b (c.take o++vs++c.drop (o+vs.length)) t:=by
 induction vs with
 |nil=>intro w c o h _;simpa[World.setCells]using h
 |cons v r ih=>
  intro w c o h hl
  simp only[List.length_cons]at hl
  have:=ih (o+1) (h.set o v) (by simp;omega)
  refine ac.ext this ?_
  have e1:(c.set o v).take (o+1)=c.take o++[v]:=by
   rw[List.take_set,List.take_succ_eq_append_getElem (by omega),List.set_append_right _ _ (by simp;omega)]
   simp[Nat.min_eq_left (by omega:o≤c.length)]
  rw[e1,List.drop_set_of_lt (by omega)]
  simp[Nat.add_assoc,Nat.add_comm 1]
theorem ac.setAll {w:World} {b:Nat} {c:List Value} {t:TypeId} (h:ac w b c t) (vs:List Value) (hl:vs.length=c.length):ac (w.setCells b 0 vs) b vs t:=by
 have:=h.setCells vs 0 (by omega)
 refine this.ext ?_
 simp[hl]
theorem Below.setCells {B:Nat} {a:World} {b:Nat} (hb:B≤b) (vs:List Value):∀{w:World} (o:Nat),Below B a w→Below B a (w.setCells b o vs):=by
 induction vs with
 |nil=>intro w o h;exact h
 |cons v r ih=>intro w o h;exact ih (o+1) (h.setCell hb v)
theorem ez {P:Program} {id:Nat} {Q:Exit→Act→World→Prop} {a:Act} {w:World} {l:List Oper} (hm:P.follows .mixedOrders=true) (hB:Region.lexB .any l.toArray=true)
  (h:wpStill P l.toArray w.drew (fun a'=>Q .normal a' w.drew) l a):(Code.region id l.toArray true).wp P Q a w:=wp_region_still_lit hm hB h
theorem dm {P:Program} {id:Nat} {Q:Exit→Act→World→Prop} {a:Act} {w:World} {l:List Oper} (n:Nat) (hm:P.follows .mixedOrders=true) (hB:Region.lexTailB .any l.toArray n=true)
  (h:wpStill P l.toArray w.drew (fun a'=>wpList P l.toArray Q (l.drop n) a' w.drew) (l.take n) a):(Code.region id l.toArray true).wp P Q a w:=wp_region_still_tail n hm hB h
theorem au {P:Program} {ops:Array Oper} {rest:List Oper} {o:Oper} {a:Act} {w:World} {Q:Exit→Act→World→Prop}
  (ty:TypeId) (x:Operand) (b:Nat) (cs:List Value) (t:TypeId) (d:TypeDesc) (hb:ac w b cs t)
  (hu:P.underlying ty=some d) (hd:d.isRow=true) (hi:(P.info? ty).map (·.size)=some cs.length)
  (hgd:o.guard=none) (ho:o.op= .load ty x) (hx:a.eval x= .pointer (some ⟨b,0,none⟩))
  (h:wpList P ops Q rest (a.put o.dst (.agg cs.toArray)) w):wpList P ops Q (o::rest) a w:=
 wpList_load_mid hgd ty x ho b 0 hx cs d hb.range hu hd hi h
theorem iq {P:Program} {ops:Array Oper} {rest:List Oper} {o:Oper} {a:Act} {w:World} {Q:Exit→Act→World→Prop}
  (ty:TypeId) (x y:Operand) (b:Nat) (old cs:List Value) (t:TypeId) (hb:ac w b old t) (hl:cs.length=old.length)
  (hi:(P.info? ty).map (·.size)=some cs.length) (h1:∀v∈cs,v.oneCell'=true)
  (hgd:o.guard=none) (ho:o.op= .store ty x y) (hx:a.eval x= .pointer (some ⟨b,0,none⟩)) (hy:a.eval y= .agg cs.toArray)
  (h:wpList P ops Q rest (a.put o.dst undef) (w.setCells b 0 cs)):wpList P ops Q (o::rest) a w:=
 wpList_store_mid hgd ty x y ho b 0 cs.toArray hx hy (World.there_of hb (by simpa using hl)) (by simpa using hi) (all_oneCell_toArray h1) (by simpa using h)
theorem ao {P:Program} {ops:Array Oper} {rest:List Oper} {o:Oper} {a:Act} {w:World} {Q:Exit→Act→World→Prop}
  (t:TypeId) (parts:Array (Nat×Operand)) (cells:List Value) (hg:o.guard=none) (ho:o.op= .build t parts)
  (hf:P.built t (parts.map fun(i,x)=>(i,a.eval x)).toList=some cells.toArray)
  (h:wpList P ops Q rest (a.put o.dst (.agg cells.toArray)) w):wpList P ops Q (o::rest) a w:=
 wpList_build hg t parts ho (by rw[hf];rfl) (by rw[hf];exact h)
structure bH (b:Nat) (w w':World):Prop where
 os:w'.os=w.os
 tape:w'.tape=w.tape
 output:w'.output=w.output
 size:w'.heap.size=w.heap.size
 block:∀k,k≠b→w'.heap[k]?=w.heap[k]?
theorem bH.blk {b:Nat} {w w':World} (h:bH b w w') {b':Nat} {c:List Value} {t:TypeId} (hb:ac w b' c t) (hne:b'≠b):ac w' b' c t:=by
 unfold ac at hb ⊢
 rw[h.block b' hne,hb]
theorem bH.below {b B:Nat} {a w w':World} (h:bH b w w') (hb:Below B a w) (hB:B≤b):Below B a w':=
 hb.trans ⟨h.os,h.tape,h.output,by rw[h.size];exact Nat.le_refl _,fun k hk=>h.block k (by omega)⟩
theorem bH.refl (b:Nat) (w:World):bH b w w:=⟨rfl,rfl,rfl,rfl,fun _ _=>rfl⟩
theorem bH.setCell {b:Nat} {w w':World} (h:bH b w w') (i:Nat) (v:Value):bH b w (w'.setCell ⟨b,i,none⟩ v):=
 ⟨h.os,h.tape,h.output,by simp[World.setCell,h.size],fun k hk=>by rw[Below.heap_setCell _ _ _ _ hk,h.block k hk]⟩
theorem bH.setCells {b:Nat} (vs:List Value):∀{w w':World} (o:Nat),bH b w w'→bH b w (w'.setCells b o vs):=by
 induction vs with
 |nil=>intro w w' o h;exact h
 |cons v r ih=>intro w w' o h;exact ih (o+1) (h.setCell o v)
structure Kept (b:Nat) (w w':World):Prop where
 os:w'.os=w.os
 tape:w'.tape=w.tape
 output:w'.output=w.output
 size:w.heap.size≤w'.heap.size
 block:∀k,k<w.heap.size→k≠b→w'.heap[k]?=w.heap[k]?
theorem Kept.refl (b:Nat) (w:World):Kept b w w:=⟨rfl,rfl,rfl,Nat.le_refl _,fun _ _ _=>rfl⟩
theorem Kept.trans {b:Nat} {u v w:World} (h:Kept b u v) (k:Kept b v w):Kept b u w:=
 ⟨k.os.trans h.os,k.tape.trans h.tape,k.output.trans h.output,Nat.le_trans h.size k.size,fun i hi hne=>(k.block i (Nat.lt_of_lt_of_le hi h.size) hne).trans (h.block i hi hne)⟩
theorem Kept.blk {b:Nat} {w w':World} (h:Kept b w w') {b':Nat} {c:List Value} {t:TypeId} (hb:ac w b' c t) (hne:b'≠b):ac w' b' c t:=by
 have:=hb.lt
 unfold ac at hb ⊢
 rw[h.block b' this hne,hb]
theorem Kept.below {b B:Nat} {a w w':World} (h:Kept b w w') (hb:Below B a w) (hB:B≤b) (hs:B≤w.heap.size):Below B a w':=
 hb.trans ⟨h.os,h.tape,h.output,h.size,fun k hk=>h.block k (by omega) (by omega)⟩
theorem Kept.only {b:Nat} {u w w':World} (h:Kept b u w) (o:bH b w w'):Kept b u w':=
 ⟨o.os.trans h.os,o.tape.trans h.tape,o.output.trans h.output,by rw[o.size];exact h.size,fun i hi hne=>(o.block i hne).trans (h.block i hi hne)⟩
theorem Kept.below' {b B:Nat} {u w w':World} (h:Kept b u w) (k:Below B w w') (hB:w.heap.size≤B):Kept b u w':=
 ⟨k.os.trans h.os,k.tape.trans h.tape,k.output.trans h.output,Nat.le_trans h.size k.size,fun i hi hne=>(k.block i (by have:=h.size;omega)).trans (h.block i hi hne)⟩
theorem Kept.setCell {b:Nat} {u w:World} (h:Kept b u w) (i:Nat) (v:Value):Kept b u (w.setCell ⟨b,i,none⟩ v):=h.only ((bH.refl b w).setCell i v)
theorem Kept.drewN {b:Nat} {u w:World} (h:Kept b u w) (n:Nat):Kept b u (w.drewN n):=⟨h.os,h.tape,h.output,h.size,h.block⟩
theorem Kept.drew {b:Nat} {u w:World} (h:Kept b u w):Kept b u w.drew:=⟨h.os,h.tape,h.output,h.size,h.block⟩
section
variable {P:Program} {ops:Array Oper} {rest:List Oper} {o:Oper} {a:Act} {w:World} {Q:Exit→Act→World→Prop}
theorem af (ty:TypeId) (z:List Value) (hz:∀w,(zeroValue ty).run P w= .ok (.agg z.toArray) w) (d:Option Tmp)
  (hg:o.guard=none) (ho:o.op= .alloc ty) (hd:o.dst=d)
  (h:∀n w',w.heap.size≤n→ac w' n z ty→Below n w w'→n<w'.heap.size→wpList P ops Q rest (a.put d (.pointer (some ⟨n,0,none⟩))) w'):wpList P ops Q (o::rest) a w:=by
 subst hd
 refine wpList_plain hg fun K hK=> ?_
 unfold Oper.wp execOp
 simp only[ho,Instr.alloc,Sem.run_bind,hz,Result.andThen_ok,newVar,newRow,Value.cells,run_newObj,Sem.run_pure]
 exact hK _ _ (h _ _ (Nat.le_refl _) (ac.new w z ty) ((Below.refl _ _).alloc (Nat.le_refl _) _) (by simp))
theorem eM (ty e:TypeId) (x y:Operand) (cs:List Value) (n k:Nat) (v:Value) (d:Option Tmp)
  (hu:P.underlying ty=some (.array n e)) (ha:∀w,(isAgg e).run P w= .ok false w) (hz:∀w,(sizeOf e).run P w= .ok 1 w)
  (hk:k<n) (hv:cs[k]?=some v)
  (hg:o.guard=none) (ho:o.op= .index ty x y) (hd:o.dst=d) (hx:a.eval x= .agg cs.toArray) (hy:a.eval y= .int .i64 (k:Int))
  (h:wpList P ops Q rest (a.put d v) w):wpList P ops Q (o::rest) a w:=by
 subst hd
 refine wpList_plain hg fun K hK=> ?_
 unfold Oper.wp execOp
 have hv':cs.toArray[k]?=some v:=by simpa using hv
 have h2:(0:Int)≤(k:Int)∧(k:Int)<(n:Int):=⟨by omega,by omega⟩
 simp only[ho,hx,hy,Instr.index,asIntOf,Sem.run_bind,Sem.run_pure,Result.andThen_ok,run_underlying hu,if_pos h2,hz,part,ha,Int.toNat_natCast,Nat.mul_one,hv']
 exact hK _ _ h
theorem ai (ty:TypeId) (x:Operand) (z:List Value) (d:Option Tmp)
  (hg:o.guard=none) (ho:o.op= .box ty x) (hd:o.dst=d) (hx:a.eval x= .agg z.toArray)
  (h:∀n w',w.heap.size≤n→ac w' n z ty→Below n w w'→n<w'.heap.size→wpList P ops Q rest (a.put d (.pointer (some ⟨n,0,none⟩))) w'):wpList P ops Q (o::rest) a w:=by
 subst hd
 refine wpList_plain hg fun K hK=> ?_
 unfold Oper.wp execOp
 simp only[ho,hx,Instr.box,Sem.run_bind,Result.andThen_ok,newVar,newRow,Value.cells,run_newObj,Sem.run_pure]
 exact hK _ _ (h _ _ (Nat.le_refl _) (ac.new w z ty) ((Below.refl _ _).alloc (Nat.le_refl _) _) (by simp))
theorem ae (ty:TypeId) (x y:Operand) (b:Nat) (old cs:List Value) (t:TypeId) (hb:ac w b old t) (hl:cs.length=old.length)
  (hi:(P.info? ty).map (·.size)=some cs.length) (h1:∀v∈cs,v.oneCell'=true)
  (hgd:o.guard=none) (ho:o.op= .store ty x y) (hx:a.eval x= .pointer (some ⟨b,0,none⟩)) (hy:a.eval y= .agg cs.toArray)
  (h:∀w',ac w' b cs t→bH b w w'→wpList P ops Q rest (a.put o.dst undef) w'):wpList P ops Q (o::rest) a w:=
 iq ty x y b old cs t hb hl hi h1 hgd ho hx hy (h _ (hb.setAll cs hl) ((bH.refl b w).setCells cs 0))
end
theorem ac.rangeMid {w:World} {b:Nat} {x y z:List Value} {t:TypeId} (h:ac w b (x++y++z) t) {off:Nat} (ho:off=x.length):w.rangeAt b off y:=by
 intro j v hv
 subst ho
 refine h.cell ?_
 have hj:=(List.getElem?_eq_some_iff.1 hv).1
 rw[List.append_assoc,List.getElem?_append_right (by omega),Nat.add_sub_cancel_left,List.getElem?_append_left hj,hv]
theorem Below.drewN {B:Nat} {a w:World} (h:Below B a w) (n:Nat):Below B a (w.drewN n):=⟨h.os,h.tape,h.output,h.size,h.block⟩
def str (l:List UInt8):Value:= .string ⟨l.toArray⟩
def ak (r:ByteArray) (l:List UInt8):Prop:=r.data.toList=l
theorem ak.size {r:ByteArray} {l:List UInt8} (h:ak r l):r.size=l.length:=by
 unfold ak at h;rw[←h];rfl
theorem ak.self (r:ByteArray):ak r r.data.toList:=rfl
theorem ak.mk (l:List UInt8):ak ⟨l.toArray⟩ l:=rfl
theorem ak.eq {r r':ByteArray} {l:List UInt8} (h:ak r l) (h':ak r' l):r=r':=by
 unfold ak at h h'
 cases r with|mk a=>cases r' with|mk b=>
 congr 1
 exact Array.toList_inj.1 (h.trans h'.symm)
theorem ak.of {r:ByteArray} {l:List UInt8} (h:ak r l):r=⟨l.toArray⟩:=h.eq (ak.mk l)
theorem ak.append {r r':ByteArray} {l l':List UInt8} (h:ak r l) (h':ak r' l'):ak (r++r') (l++l'):=by
 unfold ak at h h' ⊢
 rw[←h,←h']
 simp
theorem ak.extract {r:ByteArray} {l:List UInt8} (h:ak r l) (a b:Nat):ak (r.extract a b) ((l.take b).drop a):=by
 unfold ak at h ⊢
 rw[←h,ByteArray.data_extract,Array.toList_extract]
 simp[List.extract,List.drop_take]
theorem ak.cast {r:ByteArray} {l l':List UInt8} (h:ak r l) (e:l=l'):ak r l':=e ▸ h
theorem ak.inj {r:ByteArray} {l l':List UInt8} (h:ak r l) (h':ak r l'):l=l':=h.symm.trans h'
def bytesV (l:List UInt8):List Value:=l.map fun b=> .int .u8 ((b.toNat:Nat):Int)
theorem ic (l:List UInt8):(bytesV l).length=l.length:=by simp[bytesV]
theorem iD (l:List UInt8) (i:Nat) (hi:i<l.length):(bytesV l)[i]?=some (.int .u8 ((l[i].toNat:Nat):Int)):=by simp[bytesV,hi]
theorem fQ (l:List UInt8) (i:Nat) (b:UInt8):(bytesV l).set i (.int .u8 ((b.toNat:Nat):Int))=bytesV (l.set i b):=by simp[bytesV,List.map_set]
theorem zA (l:List UInt8) (s:ByteArray):(l.map fun b=>((b.toNat:Nat):Int)).foldl (fun r n=>r.push (UInt8.ofNat n.toNat)) s=⟨s.data++l.toArray⟩:=by
 induction l generalizing s with
 |nil=>simp
 |cons b r ih=>
  rw[List.map_cons,List.foldl_cons,ih]
  simp[ByteArray.push]
theorem ky {P:Program} (w:World) (a:Addr) (l:List UInt8) (len cap:Nat) (hl:len=l.length)
  (h:∀j v,(bytesV l)[j]?=some v→w.cell? (a.add j)=some v):
  (Conv.bytesToString (.slice (some a) len cap)).run P w= .ok (str l) w:=by
 subst hl
 have:=run_loadCells_list (P:=P) w a (bytesV l) h
 rw[ic]at this
 have h2:=run_bytesToString (P:=P) w a l.length cap (l.map fun b=>((b.toNat:Nat):Int)) (by rw[this];congr 2;simp[bytesV,Function.comp_def])
 rw[h2,zA]
 simp[str,ByteArray.empty,ByteArray.emptyWithCapacity]
 rfl
section
variable {P:Program} {ops:Array Oper} {rest:List Oper} {o:Oper} {a:Act} {w:World} {Q:Exit→Act→World→Prop}
theorem eS (src dst e:TypeId) (x:Operand) (l:List UInt8) (b off len cap:Nat) (d:Option Tmp)
  (hs:P.underlying src=some (.slice e)) (he:P.underlying e=some (.int .u8)) (hd:P.underlying dst=some .string)
  (hr:w.rangeAt b off (bytesV l)) (hl:len=l.length)
  (hg:o.guard=none) (ho:o.op= .convert src dst x) (hdst:o.dst=d) (hx:a.eval x= .slice (some ⟨b,off,none⟩) len cap)
  (h:wpList P ops Q rest (a.put d (str l)) w):wpList P ops Q (o::rest) a w:=by
 subst hdst
 refine wpList_plain hg fun K hK=> ?_
 unfold Oper.wp execOp
 simp only[ho,hx,Sem.run_bind]
 rw[run_convert_bytes_string w src dst e _ _ _ hs he hd,ky w _ l len cap hl (fun j v hv=>by rw[Addr.add_mid];exact hr j v hv)]
 exact hK _ _ h
theorem ol (t e:TypeId) (x y:Operand) (n:Nat) (d:Option Tmp) (L:Int)
  (ht:P.underlying t=some (.slice e)) (hi:(P.info? e).map (fun i=>(i.zero,i.size,i.bytes))=some (some (.int .u8 0),1,1))
  (hn:n≤281474976710656) (hL:L=(n:Int))
  (hg:o.guard=none) (ho:o.op= .makeSlice t x y) (hdst:o.dst=d) (hx:a.eval x= .int .i64 L) (hy:a.eval y= .int .i64 L)
  (h:∀g w',w.heap.size≤g→ac w' g (bytesV (List.replicate n 0)) e→Below g w w'→g<w'.heap.size→wpList P ops Q rest (a.put d (.slice (some ⟨g,0,none⟩) n n)) w'):
  wpList P ops Q (o::rest) a w:=by
 subst hdst hL
 refine wpList_plain hg fun K hK=> ?_
 cases hq:P.info? e with
 |none=>simp[hq]at hi
 |some i=>
  simp only[hq,Option.map_some,Option.some.injEq,Prod.mk.injEq]at hi
  obtain⟨i1,i2,i3⟩:=hi
  have:=run_make (P:=P) w t e i _ ht hq i1 .i64 .i64 (n:Int) (n:Int) (by omega) (by omega) (by rw[i3];omega) (by omega)
  unfold Oper.wp execOp
  simp only[ho,hx,hy,Sem.run_bind,this,Result.andThen_ok,Sem.run_pure]
  rw[i2,Int.toNat_natCast,Nat.mul_one]
  have e1:(madeCells (Value.cells (.int .u8 0)) n)=(bytesV (List.replicate n 0)).toArray:=by
   have:=toList_madeCells_one (.int .u8 0) n
   apply Array.toList_inj.1
   rw[show Value.cells (.int .u8 0)=#[.int .u8 0]from rfl,this]
   simp[bytesV]
  rw[e1]
  exact hK _ _ (h _ _ (Nat.le_refl _) (ac.new w _ e) ((Below.refl _ _).alloc (Nat.le_refl _) _) (by simp))
end
def Row (w:World) (b:Nat) (c:List Value) (t:TypeId):Prop:=
 ∃fr:Nat×Nat,w.heap[b]?=some (.cells c.toArray t fr)∧∀i,i<c.length→¬(fr.1≤i∧i<fr.2)
section
variable {w:World} {b:Nat} {c:List Value} {t:TypeId}
theorem ac.row (h:ac w b c t):Row w b c t:=⟨(0,0),h,fun i _=>by simp⟩
theorem Row.lt (h:Row w b c t):b<w.heap.size:=by
 obtain⟨fr,h,_⟩:=h
 exact(Array.getElem?_eq_some_iff.1 h).1
theorem Row.cell? (h:Row w b c t) (i:Nat):w.cell? ⟨b,i,none⟩=c[i]?:=by
 obtain⟨fr,h,_⟩:=h
 simp[World.cell?,h]
theorem Row.cell (h:Row w b c t) {i:Nat} {v:Value} (hi:c[i]?=some v):w.cell? ⟨b,i,none⟩=some v:=by rw[h.cell?,hi]
theorem Row.free (h:Row w b c t) {i:Nat} (hi:i<c.length):w.frozen? ⟨b,i,none⟩=false:=by
 obtain⟨fr,h,hf⟩:=h
 have:=hf i hi
 simp[World.frozen?,h]
 omega
theorem Row.set (h:Row w b c t) (i:Nat) (v:Value):Row (w.setCell ⟨b,i,none⟩ v) b (c.set i v) t:=by
 obtain⟨fr,h,hf⟩:=h
 refine⟨fr, ?_,by simpa using hf⟩
 simp only[World.setCell,Array.getElem?_modify,h]
 simp
theorem Row.set_other (h:Row w b c t) {a:Addr} (ha:b≠a.block) (v:Value):Row (w.setCell a v) b c t:=by
 obtain⟨fr,h,hf⟩:=h
 exact⟨fr,by rw[Below.heap_setCell _ _ _ _ ha,h],hf⟩
theorem Row.alloc (h:Row w b c t) (o:Obj):Row (w.alloc o) b c t:=by
 have hl:=h.lt
 obtain⟨fr,h,hf⟩:=h
 exact⟨fr,by rw[Below.heap_alloc _ _ _ hl,h],hf⟩
theorem Row.drew (h:Row w b c t):Row w.drew b c t:=h
theorem Row.drewN (h:Row w b c t) (n:Nat):Row (w.drewN n) b c t:=h
theorem Row.below (h:Row w b c t) {B:Nat} {w':World} (hb:Below B w w') (hB:b<B):Row w' b c t:=by
 obtain⟨fr,h,hf⟩:=h
 exact⟨fr,by rw[hb.block b hB,h],hf⟩
theorem Row.ext (h:Row w b c t) {c':List Value} (e:c=c'):Row w b c' t:=e ▸ h
theorem Row.kept (hb:Row w b c t) {b0:Nat} {w':World} (h:Kept b0 w w') (hne:b≠b0):Row w' b c t:=by
 have hl:=hb.lt
 obtain⟨fr,hb,hf⟩:=hb
 exact⟨fr,by rw[h.block b hl hne,hb],hf⟩
theorem Row.only (hb:Row w b c t) {b0:Nat} {w':World} (h:bH b0 w w') (hne:b≠b0):Row w' b c t:=by
 obtain⟨fr,hb,hf⟩:=hb
 exact⟨fr,by rw[h.block b hne,hb],hf⟩
theorem Row.rangeMid {x y z:List Value} (h:Row w b (x++y++z) t) {off:Nat} (ho:off=x.length):w.rangeAt b off y:=by
 intro j v hv
 subst ho
 refine h.cell ?_
 have hj:=(List.getElem?_eq_some_iff.1 hv).1
 rw[List.append_assoc,List.getElem?_append_right (by omega),Nat.add_sub_cancel_left,List.getElem?_append_left hj,hv]
theorem Row.range {x z:List Value} (h:Row w b (x++z) t):w.rangeAt b 0 x:=Row.rangeMid (x:=[]) (y:=x) (z:=z) (by simpa using h) rfl
end
section
variable {P:Program} {ops:Array Oper} {rest:List Oper} {o:Oper} {a:Act} {w:World} {Q:Exit→Act→World→Prop}
theorem aG (ty:TypeId) (z:Value) (hz:∀w,(zeroValue ty).run P w= .ok z w) (h1:z.oneCell'=true) (d:Option Tmp)
  (hg:o.guard=none) (ho:o.op= .alloc ty) (hd:o.dst=d)
  (h:∀n w',w.heap.size≤n→ac w' n [z] ty→Below n w w'→n<w'.heap.size→wpList P ops Q rest (a.put d (.pointer (some ⟨n,0,none⟩))) w'):wpList P ops Q (o::rest) a w:=by
 subst hd
 refine wpList_plain hg fun K hK=> ?_
 unfold Oper.wp execOp
 have hc:z.cells=[z].toArray:=by cases z<;>first|rfl|simp[Value.oneCell']at h1
 simp only[ho,Instr.alloc,Sem.run_bind,hz,Result.andThen_ok,newVar,newRow,hc,run_newObj,Sem.run_pure]
 exact hK _ _ (h _ _ (Nat.le_refl _) (ac.new w [z] ty) ((Below.refl _ _).alloc (Nat.le_refl _) _) (by simp))
theorem aw (ty:TypeId) (x:Operand) (z:Value) (h1:z.oneCell'=true) (d:Option Tmp)
  (hg:o.guard=none) (ho:o.op= .box ty x) (hd:o.dst=d) (hx:a.eval x=z)
  (h:∀n w',w.heap.size≤n→ac w' n [z] ty→Below n w w'→n<w'.heap.size→wpList P ops Q rest (a.put d (.pointer (some ⟨n,0,none⟩))) w'):wpList P ops Q (o::rest) a w:=by
 subst hd
 refine wpList_plain hg fun K hK=> ?_
 unfold Oper.wp execOp
 have hc:z.cells=[z].toArray:=by cases z<;>first|rfl|simp[Value.oneCell']at h1
 simp only[ho,hx,Instr.box,Sem.run_bind,Result.andThen_ok,newVar,newRow,hc,run_newObj,Sem.run_pure]
 exact hK _ _ (h _ _ (Nat.le_refl _) (ac.new w [z] ty) ((Below.refl _ _).alloc (Nat.le_refl _) _) (by simp))
theorem bD (t e:TypeId) (len:Nat) (parts:Array (Nat×Operand)) (cells:List Value) (z:Value) (sz byt:Nat) (d:Option Tmp)
  (hu:P.underlying t=some (.slice e)) (hi:(P.info? e).map (fun i=>(i.zero,i.size,i.bytes))=some (some z,sz,byt)) (hsm:len*sz≤16777216) (hpos:0<len*sz)
  (hg:o.guard=none) (ho:o.op= .buildSlice t len parts) (hd:o.dst=d)
  (hf:Instr.fill (fun i=>some (i*sz,sz)) ((Array.range (len*sz)).map (z.cells[· % z.cells.size]!)) (parts.map fun(i,x)=>(i,a.eval x)).toList=some cells.toArray)
  (h:∀g w',w.heap.size≤g→ac w' g cells e→Below g w w'→g<w'.heap.size→wpList P ops Q rest (a.put d (.slice (some ⟨g,0,none⟩) len len)) w'):wpList P ops Q (o::rest) a w:=by
 subst hd
 cases hie:P.info? e with
 |none=>simp[hie]at hi
 |some ie=>
  simp only[hie,Option.map_some,Option.some.injEq,Prod.mk.injEq]at hi
  obtain⟨h1,h2,_⟩:=hi
  subst h2
  exact wpList_buildSlice hg t e len parts ho cells.toArray ie z hu hie h1 (by omega) (by omega) hf (h _ _ (Nat.le_refl _) (ac.new w cells e) ((Below.refl _ _).alloc (Nat.le_refl _) _) (by simp))
theorem qe (src dst e:TypeId) (x:Operand) (s:ByteArray) (d:Option Tmp)
  (hs:P.underlying src=some .string) (hd:P.underlying dst=some (.slice e)) (he:P.underlying e=some (.int .u8))
  (hg:o.guard=none) (ho:o.op= .convert src dst x) (hdst:o.dst=d) (hx:a.eval x= .string s)
  (h:∀g cap z w',w.heap.size≤g→Row w' g (bytesV s.data.toList++z) e→Below g w w'→g<w'.heap.size→s.size+z.length=cap→wpList P ops Q rest (a.put d (.slice (some ⟨g,0,none⟩) s.size cap)) w'):
  wpList P ops Q (o::rest) a w:=by
 subst hdst
 refine wpList_plain hg fun K hK=> ?_
 unfold Oper.wp execOp
 simp only[ho,hx,Sem.run_bind]
 rw[Lib.run_convert_string_bytes w src dst e s hs hd he]
 have hge:=grownCap_ge w s.size 0 e
 have hcells:(Lib.bytesCells w e s)=(bytesV s.data.toList++List.replicate (grownCap w s.size 0 e-s.size) (Value.int .u8 0)).toArray:=by
  apply Array.toList_inj.1
  simp[Lib.bytesCells,bytesV]
 refine hK _ _ (h w.heap.size _ (List.replicate (grownCap w s.size 0 e-s.size) (Value.int .u8 0)) _ (Nat.le_refl _) ?_ ?_ ?_ ?_)
 ·refine⟨((Lib.bytesCells w e s).size,(Lib.bytesCells w e s).size+1), ?_, ?_⟩
  ·rw[Lib.bytesWorld_at_new,hcells]
  ·intro i hi
   rw[hcells,List.size_toArray]
   show¬(_≤i∧i<_)
   omega
 ·exact⟨rfl,rfl,rfl,by rw[Lib.bytesWorld_size];omega,fun k hk=>Lib.bytesWorld_at_old w e s k hk⟩
 ·rw[Lib.bytesWorld_size];omega
 ·rw[List.length_replicate];omega
end
section
variable {w w':World} {base:Nat} {e:TypeId} {size:Nat} {v:Value} {n:Nat} {xs:List Value}
theorem below_grown (h:Below w.heap.size w w'):w.grownBy w' none:=⟨h.os,h.tape,h.output,h.size,fun k hk _=>h.block k hk⟩
theorem own_below (h:Below w.heap.size w w') (ho:w.ownsRow base e size v n xs):w'.ownsRow base e size v n xs:=
 ho.kept (below_grown h) (by cases hv:v.ownBlock<;>simp)
theorem ac.grown {row:Option Nat} {b:Nat} {c:List Value} {t:TypeId} (h:ac w b c t) (hg:w.grownBy w' row) (hne:some b≠row):ac w' b c t:=by
 have:=h.lt
 unfold ac at h ⊢
 rw[hg.block b this hne,h]
theorem own_ne (h:w.ownsRow base e size v n xs) {b:Nat} (hb:b<base):some b≠v.ownBlock:=by
 intro he
 have:=(h.lt b he.symm).1
 omega
theorem fK {W0:World} {B:Nat} (hb:Below B W0 w) (h:w.ownsRow base e size v n xs) (hg:w.grownBy w' v.ownBlock) (hB:B≤base) (hs:B≤w.heap.size):Below B W0 w':=
 hb.trans ⟨hg.os,hg.tape,hg.output,hg.size,fun k hk=>hg.block k (by omega) (own_ne h (by omega))⟩
theorem Bl (w:World) (b i:Nat) (v:Value):w.grownBy (w.setCell ⟨b,i,none⟩ v) (some b):=
 ⟨rfl,rfl,rfl,by simp[World.setCell],fun k _ hne=>Below.heap_setCell _ _ _ _ (by intro h;exact hne (by rw[h]))⟩
theorem Bn {b:Nat} (h:w.ownsRow base e size v n xs) (hg:w.grownBy w' (some b)) (hb:b<base):w'.ownsRow base e size v n xs:=
 h.kept hg (.inr (fun he=>own_ne h hb he.symm))
theorem FB (h:w.ownsRow base e size v n xs) {b i:Nat} {u:Value} (hb:b<base):(w.setCell ⟨b,i,none⟩ u).ownsRow base e size v n xs:=
 Bn h (Bl w b i u) hb
theorem own_base {base':Nat} (h:w.ownsRow base e size v n xs) (hb:base'≤base):w.ownsRow base' e size v n xs:=by
 refine⟨h.1,h.2.imp id ?_⟩
 rintro⟨g,cap,cur,h1,h2,h3⟩
 exact⟨g,cap,cur,h1,by omega,h3⟩
theorem cj {b:Nat} {c:List Value} {t:TypeId} (h:ac w b c t):∀(j:Nat) (u:Value),c[j]?=some u→w.cell? ((⟨b,0,none⟩:Addr).add j)=some u:=by
 intro j u hu
 rw[Addr.add_mid,Nat.zero_add]
 exact h.cell hu
theorem dA (h:w.ownsRow base e size v n xs) (hn:0<n):∃g cap z,v= .slice (some ⟨g,0,none⟩) n cap∧n≤cap∧base≤g∧ac w g (xs++z) e:=by
 rcases h.2 with⟨_,h0⟩|⟨g,cap,cur,rfl,hb,hg,hc,_,_,ht⟩
 ·omega
 ·refine⟨g,cap,cur.toList.drop (n*size),rfl,hc,hb, ?_⟩
  unfold ac
  rw[hg,←ht,List.take_append_drop]
theorem qY (h:w.ownsRow base e size v 0 xs):∃(p:Option Addr) (c:Nat),v= .slice p 0 c:=by
 rcases h.2 with⟨h0,_⟩|⟨g,cap,cur,rfl,_⟩
 ·exact⟨_,_,h0⟩
 ·exact⟨_,_,rfl⟩
theorem aQ (h:w.ownsRow base e size v n xs):∃(p:Option Addr) (c:Nat),v= .slice p n c:=by
 rcases h.2 with⟨h0,h1⟩|⟨g,cap,cur,rfl,_⟩
 ·subst h1;exact⟨_,_,h0⟩
 ·exact⟨_,_,rfl⟩
end
section
variable {P:Program} {w:World} {d:Nat} {xs ys:Array Value} {f:Field} {fs:List Field} {r:Bool}
theorem ki:(Op.eqFields d xs ys []).run P w= .ok true w:=by simp[Op.eqFields]
theorem eH {k k':IntKind} {a b:Int} (hn:f.name≠ "_") (hx:(part f.type xs f.offset).run P w= .ok (.int k a) w) (hy:(part f.type ys f.offset).run P w= .ok (.int k b) w)
  (hu:P.underlying f.type=some (.int k')) (hr:(Op.eqFields (d+1) xs ys fs).run P w= .ok r w):(Op.eqFields (d+1) xs ys (f::fs)).run P w= .ok (a==b&&r) w:=by
 simp only[Op.eqFields,ne_eq,hn,not_false_eq_true,if_true,Sem.run_bind,hx,hy,Result.andThen_ok,run_equalIn_int w d f.type k k' a b hu]
 cases h:a==b<;>simp[hr]
theorem Bq (a b:ByteArray):(a==b)=decide (a=b):=by
 have h:(a==b)=(a.data==b.data):=by obtain⟨x⟩:=a;obtain⟨y⟩:=b;rfl
 rw[h,Bool.eq_iff_iff]
 obtain⟨x⟩:=a
 obtain⟨y⟩:=b
 simp
theorem kj {a b:ByteArray} (hn:f.name≠ "_") (hx:(part f.type xs f.offset).run P w= .ok (.string a) w) (hy:(part f.type ys f.offset).run P w= .ok (.string b) w)
  (hu:P.underlying f.type=some .string) (hr:(Op.eqFields (d+1) xs ys fs).run P w= .ok r w):(Op.eqFields (d+1) xs ys (f::fs)).run P w= .ok (decide (a=b)&&r) w:=by
 simp only[Op.eqFields,ne_eq,hn,not_false_eq_true,if_true,Sem.run_bind,hx,hy,Result.andThen_ok,run_equalIn_string w d f.type a b hu,←beq_toListBytes,Bq]
 cases h:decide (a=b)<;>simp[hr]
theorem yJ {us vs:Array Value} {q:Bool} (hn:f.name≠ "_") (hx:(part f.type xs f.offset).run P w= .ok (.agg us) w) (hy:(part f.type ys f.offset).run P w= .ok (.agg vs) w)
  (hq:(Op.equalIn d f.type (.agg us) (.agg vs)).run P w= .ok q w) (hr:(Op.eqFields d xs ys fs).run P w= .ok r w):(Op.eqFields d xs ys (f::fs)).run P w= .ok (q&&r) w:=by
 simp only[Op.eqFields,ne_eq,hn,not_false_eq_true,if_true,Sem.run_bind,hx,hy,Result.andThen_ok,hq]
 cases q<;>simp[hr]
theorem iE {t:TypeId} {gs:Array Field} (hu:P.underlying t=some (.struct gs)) (hp:P.stoodInHeld t=false) (h:(Op.eqFields d xs ys gs.toList).run P w= .ok r w):(Op.equalIn (d+1) t (.agg xs) (.agg ys)).run P w= .ok r w:=by
 have hf:P.fieldsOf t=gs:=by unfold Program.fieldsOf;rw[hu]
 rw[run_equalIn_agg w d t xs ys (by rw[hf];exact hu) hp,hf]
 exact h
end
section
variable {P:Program} {ops:Array Oper} {rest:List Oper} {o:Oper} {a:Act} {w:World} {Q:Exit→Act→World→Prop}
theorem cQ (t t':TypeId) (x y:Operand) (xs ys:Array Value) (r:Bool) (d:Option Tmp)
  (hm:P.eqGuardType P.depth t=false) (hq:(Op.equalIn 10000 t (.agg xs) (.agg ys)).run P w= .ok r w)
  (hg:Region.wanted o (yielded ops a.tmps)=true) (ho:o.op= .binOp .eql t x y t') (hd:o.dst=d) (hx:a.eval x= .agg xs) (hy:a.eval y= .agg ys)
  (h:wpList P ops Q rest (a.put d (.bool r)) w):wpList P ops Q (o::rest) a w:=by
 subst hd
 unfold wpList
 rw[if_pos hg]
 refine .inl ?_
 unfold Oper.wp execOp
 simp only[ho,hx,hy,Sem.run_bind,run_eqGuard_agg w _ t x y xs ys hm,Result.andThen_ok,run_eql_struct,hq,Sem.run_pure]
 exact h
theorem gG (t t':TypeId) (x y:Operand) (xs ys:Array Value) (r:Bool) (d:Option Tmp)
  (hm:P.eqGuardType P.depth t=false) (hq:(Op.equalIn 10000 t (.agg xs) (.agg ys)).run P w= .ok r w)
  (hg:Region.wanted o (yielded ops a.tmps)=true) (ho:o.op= .binOp .neq t x y t') (hd:o.dst=d) (hx:a.eval x= .agg xs) (hy:a.eval y= .agg ys)
  (h:wpList P ops Q rest (a.put d (.bool (!r))) w):wpList P ops Q (o::rest) a w:=by
 subst hd
 unfold wpList
 rw[if_pos hg]
 refine .inl ?_
 unfold Oper.wp execOp
 simp only[ho,hx,hy,Sem.run_bind,run_eqGuard_agg w _ t x y xs ys hm,Result.andThen_ok,run_neq_struct,hq,Sem.run_pure]
 exact h
end
theorem uN (n:Nat):Lib.repeatL [0] n=List.replicate n (0:UInt8):=by
 induction n with
 |zero=>rfl
 |succ n ih=>rw[List.replicate_succ,←ih];rfl
theorem jh (c:Nat) (w:World) (hc:c≤1073741824):
  Calls Tryz.prog 74 #[.string ⟨#[0]⟩, .int .i64 c] w fun e w'=>∃r,e= .returned (.string r)∧ak r (List.replicate c 0)∧Below w.heap.size w w':=by
 have hs:(⟨#[0]⟩:ByteArray).size=1:=rfl
 refine(Tryz.strings_Repeat ⟨#[0]⟩ c w (by omega) (by rw[hs];omega)).mono ?_
 rintro e w' ⟨rfl,hb⟩
 exact⟨_,rfl,(ak.mk _).cast (uN c),hb⟩
theorem qf (s:ByteArray) (w:World) (hs:s.size≤281474976710656):
  Calls Tryz.prog 352 #[.string s] w fun e w'=>e= .returned (.string s)∧Below w.heap.size w w':=by
 go_enter Tryz.func352,Tryz.ntmps352
 go_wp2_with fail
 refine(Tryz.stringslite_Clone s w hs).mono ?_
 rintro e w' ⟨rfl,hb⟩
 go_wp2_with fail
 go_ret
 exact⟨rfl,hb⟩
theorem bt {a b c:World} (h:RowKit.Below a.heap.size a b) (k:RowKit.Below b.heap.size b c):RowKit.Below a.heap.size a c:=h.trans (k.mono h.size)
def Ends (ok:Prop) (l:List UInt8) (c:Int) (e:Ending):Prop:=
 (ok∧∃r,e= .returned (.tuple #[.string r, .int .i64 0])∧ak r l)∨(¬ok∧e= .returned (.tuple #[.string ⟨#[]⟩, .int .i64 c]))
theorem Ends.yes {ok:Prop} {l:List UInt8} {c:Int} {e:Ending} (h:Ends ok l c e) (ho:ok):∃r,e= .returned (.tuple #[.string r, .int .i64 0])∧ak r l:=by
 rcases h with⟨_,h⟩|⟨h,_⟩
 ·exact h
 ·exact absurd ho h
theorem Ends.no {ok:Prop} {l:List UInt8} {c:Int} {e:Ending} (h:Ends ok l c e) (ho:¬ok):e= .returned (.tuple #[.string ⟨#[]⟩, .int .i64 c]):=by
 rcases h with⟨h,_⟩|⟨_,h⟩
 ·exact absurd h ho
 ·exact h
def gd (k:List UInt8):List UInt8:=if 64<k.length then de k++List.replicate 32 0 else k++List.replicate (64-k.length) 0
def jV (k:List UInt8) (x:UInt8):List UInt8:=(gd k).map fun c=>c^^^x
def GN (k m:List UInt8):List UInt8:=jV k 0x36++m
def qg (k m:List UInt8):List UInt8:=jV k 0x5c++de (GN k m)
def nh (k m:List UInt8):List UInt8:=de (qg k m)
theorem lz (k:List UInt8):(gd k).length=64:=by
 unfold gd;split
 ·simp[cJ]
 ·simp;omega
theorem iO (k:List UInt8) (x:UInt8):(jV k x).length=64:=by simp[jV,lz]
theorem dR (k m:List UInt8):(nh k m).length=32:=cJ _
theorem sR (k m:List UInt8):(qg k m).length=96:=by simp[qg,iO,cJ]
def bT (s:List UInt8):List UInt8:=beBytes 4 s.length++s
def jW (label:List UInt8) (ctx:List Nat):List UInt8:=bT label++[UInt8.ofNat ctx.length]++ctx.flatMap (beBytes 8)
def cK (label:List UInt8) (ctx:List Int):Bool:=decide (1≤label.length)&&decide (label.length≤16)&&decide (ctx.length≤8)&&ctx.all (fun n=>decide (0≤n))
def piece (master said:List UInt8) (was:List UInt8) (i:Nat):List UInt8:=nh master (was++said++[UInt8.ofNat (i+1)])
def lU (master said:List UInt8):Nat→List UInt8
 |0=>[]
 |k+1=>piece master said (lU master said k) k
def pieces (master said:List UInt8):Nat→List UInt8
 |0=>[]
 |k+1=>pieces master said k++lU master said (k+1)
def nX (master label:List UInt8) (n:Nat):List UInt8:=(pieces master (jW label []) ((n+31)/32)).take n
theorem bQ (s:List UInt8):(bT s).length=4+s.length:=by simp[bT,beBytes_length]
theorem kQ (ctx:List Nat):(ctx.flatMap (beBytes 8)).length=8*ctx.length:=by
 induction ctx with
 |nil=>rfl
 |cons a r ih=>simp[List.flatMap_cons,beBytes_length,ih];omega
theorem ni (label:List UInt8) (ctx:List Nat):(jW label ctx).length=5+label.length+8*ctx.length:=by
 unfold jW;rw[List.length_append,List.length_append,bQ,kQ,List.length_singleton];omega
theorem lV (master said:List UInt8) (k:Nat):(lU master said (k+1)).length=32:=dR _ _
theorem mO (master said:List UInt8) (k:Nat):(pieces master said k).length=32*k:=by
 induction k with
 |zero=>rfl
 |succ k ih=>simp[pieces,ih,lV];omega
theorem uO (master label:List UInt8) (n:Nat):(nX master label n).length=n:=by
 unfold nX;rw[List.length_take,mO];omega
def eO (c:UInt8):Bool:=(decide (97≤c.toNat)&&decide (c.toNat≤122))||(decide (48≤c.toNat)&&decide (c.toNat≤57))
def dr (l:List UInt8):Bool:=decide (1≤l.length)&&decide (l.length≤16)&&l.all eO
structure Rec where
 kind:Int
 epoch:Int
 time:Int
 count:Int
 target:Int
 till:Int
 root:ByteArray
 name:ByteArray
def Rec.cells (r:Rec):List Value:=[.int .i64 r.kind, .int .i64 r.epoch, .int .i64 r.time, .int .i64 r.count, .int .i64 r.target, .int .i64 r.till, .string r.root, .string r.name]
def Rec.v (r:Rec):Value:= .agg #[.int .i64 r.kind, .int .i64 r.epoch, .int .i64 r.time, .int .i64 r.count, .int .i64 r.target, .int .i64 r.till, .string r.root, .string r.name]
def Rec.zero:Rec:=⟨0,0,0,0,0,0,⟨#[]⟩,⟨#[]⟩⟩
def aT (r:Rec):Bool:=
 if r.kind=1 then decide (0≤r.count)&&decide (r.count≤4096)&&decide (r.root.size=32)&&decide (r.target=0)&&decide (r.till=0)&&decide (r.name.size=0)
 else if r.kind=2∨r.kind=5 then decide (0≤r.target)&&decide (r.target<r.epoch)&&decide (0≤r.till)&&decide (r.till≤1099511627776)&&decide (r.count=0)&&decide (r.root.size=0)&&decide (r.name.size=0)
 else if r.kind=3 then decide (0≤r.target)&&decide (r.target<r.epoch)&&dr r.name.data.toList&&decide (r.till=0)&&decide (r.count=0)&&decide (r.root.size=0)
 else if r.kind=4 then dr r.name.data.toList&&decide (r.target=0)&&decide (r.till=0)&&decide (r.count=0)&&decide (r.root.size=0)
 else false
def aE (r:Rec):Bool:=decide (0≤r.epoch)&&decide (r.epoch≤4294967295)&&decide (0≤r.time)&&decide (r.time≤1099511627776)&&aT r
open Go.Proofs Go.Shelf
def GO:Go.Shelf.Ren:=⟨fun|166=>140|240=>244|276=>316|n=>n,fun|37=>217|70=>216|72=>219|75=>221|80=>182|164=>374|n=>n,fun n=>n⟩
theorem FC:Go.Proofs.Lays.n166 Tryz.prog GO:={
 mixed:=by kernel_rfl
 f166:=Tryz.func140.trans (congrArg some (by kernel_rfl))
 f240:=Tryz.func244.trans (congrArg some (by kernel_rfl))
 f276:=Tryz.func316.trans (congrArg some (by kernel_rfl))
 t0:=Tryz.underlying0
 a0:=Tryz.isAgg0
 z0:=Tryz.sizeOf0
 v0:=Tryz.zeroValue0
 t3:=Tryz.underlying3
 a3:=Tryz.isAgg3
 z3:=Tryz.sizeOf3
 v3:=Tryz.zeroValue3
 t4:=Tryz.underlying4
 a4:=Tryz.isAgg4
 z4:=Tryz.sizeOf4
 v4:=Tryz.zeroValue4
 t9:=Tryz.underlying9
 a9:=Tryz.isAgg9
 z9:=Tryz.sizeOf9
 v9:=Tryz.zeroValue9
 t20:=Tryz.underlying20
 a20:=Tryz.isAgg20
 z20:=Tryz.sizeOf20
 v20:=Tryz.zeroValue20
 t37:=Tryz.underlying217
 a37:=Tryz.isAgg217
 z37:=Tryz.sizeOf217
 v37:=Tryz.zeroValue217
 t70:=Tryz.underlying216
 a70:=Tryz.isAgg216
 z70:=Tryz.sizeOf216
 v70:=Tryz.zeroValue216
 t72:=Tryz.underlying219
 a72:=Tryz.isAgg219
 z72:=Tryz.sizeOf219
 v72:=Tryz.zeroValue219
 t75:=Tryz.underlying221
 a75:=Tryz.isAgg221
 z75:=Tryz.sizeOf221
 v75:=Tryz.zeroValue221
 t164:=Tryz.underlying374
 a164:=Tryz.isAgg374
 z164:=Tryz.sizeOf374
 v164:=Tryz.zeroValue374}
theorem GP:Builder.Extra Tryz.prog GO:={
 sizeBuilder:=by kernel_rfl
 liesBuilder:=by kernel_rfl
 t5:=Tryz.underlying5
 a5:=Tryz.isAgg5
 z5:=Tryz.sizeOf5
 v5:=Tryz.zeroValue5
 infoByte:=by kernel_rfl
 cellsByte:=by kernel_rfl
 sizeByte:=by kernel_rfl
 neB5:=by decide}
def GQ:Go.Shelf.Ren:=⟨fun|167=>257|240=>244|276=>316|n=>n,fun|37=>217|70=>216|72=>219|75=>221|80=>182|164=>374|n=>n,fun n=>n⟩
theorem FD:Go.Proofs.Lays.n167 Tryz.prog GQ:={
 mixed:=by kernel_rfl
 f167:=Tryz.func257.trans (congrArg some (by kernel_rfl))
 f240:=Tryz.func244.trans (congrArg some (by kernel_rfl))
 f276:=Tryz.func316.trans (congrArg some (by kernel_rfl))
 t0:=Tryz.underlying0
 a0:=Tryz.isAgg0
 z0:=Tryz.sizeOf0
 v0:=Tryz.zeroValue0
 t4:=Tryz.underlying4
 a4:=Tryz.isAgg4
 z4:=Tryz.sizeOf4
 v4:=Tryz.zeroValue4
 t5:=Tryz.underlying5
 a5:=Tryz.isAgg5
 z5:=Tryz.sizeOf5
 v5:=Tryz.zeroValue5
 t9:=Tryz.underlying9
 a9:=Tryz.isAgg9
 z9:=Tryz.sizeOf9
 v9:=Tryz.zeroValue9
 t20:=Tryz.underlying20
 a20:=Tryz.isAgg20
 z20:=Tryz.sizeOf20
 v20:=Tryz.zeroValue20
 t37:=Tryz.underlying217
 a37:=Tryz.isAgg217
 z37:=Tryz.sizeOf217
 v37:=Tryz.zeroValue217
 t70:=Tryz.underlying216
 a70:=Tryz.isAgg216
 z70:=Tryz.sizeOf216
 v70:=Tryz.zeroValue216
 t72:=Tryz.underlying219
 a72:=Tryz.isAgg219
 z72:=Tryz.sizeOf219
 v72:=Tryz.zeroValue219
 t75:=Tryz.underlying221
 a75:=Tryz.isAgg221
 z75:=Tryz.sizeOf221
 v75:=Tryz.zeroValue221
 t164:=Tryz.underlying374
 a164:=Tryz.isAgg374
 z164:=Tryz.sizeOf374
 v164:=Tryz.zeroValue374}
theorem GR:Builder.Extra Tryz.prog GQ:={
 sizeBuilder:=by kernel_rfl
 liesBuilder:=by kernel_rfl
 t5:=Tryz.underlying5
 a5:=Tryz.isAgg5
 z5:=Tryz.sizeOf5
 v5:=Tryz.zeroValue5
 infoByte:=by kernel_rfl
 cellsByte:=by kernel_rfl
 sizeByte:=by kernel_rfl
 neB5:=by decide}
theorem xo (B b:Nat) (bs:List Value) (s:ByteArray) (w:World) (h:Lib.IsBuilder 219 5 B b bs w) (hl:bs.length+s.size≤140737488355328) (hB:B≤w.heap.size):
  Calls Tryz.prog 140 #[.pointer (some ⟨b,0,none⟩), .string s] w fun e w'=>e= .returned (.tuple #[.int .i64 s.size, .nilIface])∧Lib.BuilderAt 219 5 B b (.pointer (some ⟨b,0,none⟩)) (bs++Lib.strCells s) w'∧Below B w w':=
 Any.Builder_WriteString FC GP B b bs s w h hl hB
theorem Bt (B b:Nat) (bs:List Value) (c:Int) (w:World) (h:Lib.IsBuilder 219 5 B b bs w) (hl:bs.length+1≤140737488355328) (hB:B≤w.heap.size):
  Calls Tryz.prog 257 #[.pointer (some ⟨b,0,none⟩), .int .u8 c] w fun e w'=>e= .returned .nilIface∧Lib.BuilderAt 219 5 B b (.pointer (some ⟨b,0,none⟩)) (bs++[.int .u8 c]) w'∧Below B w w':=
 Any.Builder_WriteByte FD GR B b bs c w h hl hB
def fX (w:World) (b:Nat) (l:List UInt8):Prop:=Lib.IsBuilder 219 5 b b (Lib.byteCells l) w
theorem lA (w:World):Sem.run Tryz.prog (zeroValue 219) w= .ok (.agg ([.pointer none, .slice none 0 0]:List Value).toArray) w:=by kernel_rfl
theorem fX.new {w:World} {b:Nat} (h:ac w b [.pointer none, .slice none 0 0] 219):fX w b []:=
 .inl ⟨Nat.le_refl _, .slice none 0 0,h,World.ownsRow_nil _ _ _ _,by simp[Value.ownBlock]⟩
theorem kR {T e:TypeId} {B b:Nat} {p:Value} {bs:List Value} {w w':World} (h:Lib.BuilderAt T e B b p bs w) (hb:Below w.heap.size w w'):Lib.BuilderAt T e B b p bs w':=by
 have hlt:=h.lt
 obtain⟨hB,v,hv,hown,hne⟩:=h
 refine⟨hB,v,by rw[hb.block b hlt,hv], ?_,hne⟩
 refine⟨hown.1, ?_⟩
 rcases hown.2 with hn|⟨g,cap,cur,rfl,hg,hgg,rest⟩
 ·exact .inl hn
 ·refine .inr ⟨g,cap,cur,rfl,hg, ?_,rest⟩
  rw[hb.block g (Array.getElem?_eq_some_iff.1 hgg).1]
  exact hgg
theorem fX.below {w w':World} {b:Nat} {l:List UInt8} (h:fX w b l) (hb:Below w.heap.size w w'):fX w' b l:=
 h.imp (fun h=>kR h hb) (fun h=>kR h hb)
theorem fX.lt {w:World} {b:Nat} {l:List UInt8} (h:fX w b l):b<w.heap.size:=by
 rcases h with h|h<;>exact h.lt
theorem byteCells_append (a b:List UInt8):Lib.byteCells (a++b)=Lib.byteCells a++Lib.byteCells b:=by simp[Lib.byteCells]
theorem gh (b:Nat) (l:List UInt8) (s:ByteArray) (w:World) (h:fX w b l) (hl:l.length+s.size≤140737488355328):
  Calls Tryz.prog 140 #[.pointer (some ⟨b,0,none⟩), .string s] w fun e w'=>e= .returned (.tuple #[.int .i64 s.size, .nilIface])∧fX w' b (l++s.data.toList)∧Below b w w':=by
 refine(xo b b _ s w h (by rw[Lib.byteCells_length];exact hl) (Nat.le_of_lt h.lt)).mono ?_
 rintro e w' ⟨rfl,hb,hbel⟩
 refine⟨rfl, .inr ?_,hbel⟩
 rw[byteCells_append]
 exact hb
theorem mP (b:Nat) (l:List UInt8) (c:Int) (w:World) (h:fX w b l) (h0:0≤c) (h1:c<256) (hl:l.length+1≤140737488355328):
  Calls Tryz.prog 257 #[.pointer (some ⟨b,0,none⟩), .int .u8 c] w fun e w'=>e= .returned .nilIface∧fX w' b (l++[UInt8.ofNat c.toNat])∧Below b w w':=by
 refine(Bt b b _ c w h (by rw[Lib.byteCells_length];exact hl) (Nat.le_of_lt h.lt)).mono ?_
 rintro e w' ⟨rfl,hb,hbel⟩
 refine⟨rfl, .inr ?_,hbel⟩
 have e:Lib.byteCells (l++[UInt8.ofNat c.toNat])=Lib.byteCells l++[.int .u8 c]:=by
  rw[byteCells_append]
  congr 1
  simp[Lib.byteCells]
  omega
 rw[e]
 exact hb
theorem mt (b:Nat) (l:List UInt8) (w:World) (h:fX w b l):
  Calls Tryz.prog 142 #[.pointer (some ⟨b,0,none⟩)] w fun e w'=>∃r,e= .returned (.string r)∧ak r l∧Below b w w':=by
 refine(Tryz.Builder_String_any b b l w h (Nat.le_of_lt h.lt)).mono ?_
 rintro e w' ⟨rfl,hb⟩
 exact⟨_,rfl,ak.mk _,hb⟩
end Go.Proofs.YtngiibgdgenidaaGreat
