/- Plain SHA-256 over lists of bytes and natural numbers, and small laws on it. No program in sight. Blocks of memory known whole, and what stores, new blocks and draws do to them. No program in sight. Slices of bytes that the call itself makes; bytes as a string. No program in sight. -/
import Derived.WalkKit
import Derived.ProofKit
import Derived.Deep.MidRow
import Derived.Deep.Draws
import Derived.StillTailTactics
import Derived.Lib.ConvBytes
import Derived.Great.BuildSlice
import Derived.Laws.AppendOwn
import Derived.Laws.StructEq
import Derived.Test.YtadooplpfhdhcaaGreatShelf
import Derived.Shelf.Strings.Repeat
import Derived.Handy
import Derived.Lib.Hide
import Derived.Outline
import Derived.Shelf.Strings.Builder1
import Derived.Shelf.Strings.Builder2
import Derived.Shelf.Lay
set_option linter.unusedSimpArgs false
set_option linter.unusedVariables false
set_option maxRecDepth 100000
set_option maxHeartbeats 4000000
namespace Go.Proofs.YtadooplpfhdhcaaGreat
open Go
open Go.Proofs.Tryz
def dQ (x n:Nat):Nat:=(x>>>n|||x<<<(32-n)) % 4294967296
def Jh (x:Nat):Nat:=dQ x 7^^^dQ x 18^^^x/8
def Ji (x:Nat):Nat:=dQ x 17^^^dQ x 19^^^x/1024
def LM (a:Nat):Nat:=dQ a 2^^^dQ a 13^^^dQ a 22
def LN (e:Nat):Nat:=dQ e 6^^^dQ e 11^^^dQ e 25
def Jj (e f g:Nat):Nat:=(e&&&f)|||((4294967295-e)&&&g)
def Jk (a b c:Nat):Nat:=(a&&&b)|||(a&&&c)|||(b&&&c)
def be32 (l:List UInt8) (i:Nat):Nat:=
 (l.getD (4*i) 0).toNat*16777216+(l.getD (4*i+1) 0).toNat*65536+(l.getD (4*i+2) 0).toNat*256+(l.getD (4*i+3) 0).toNat
def g9 (l:List UInt8) (ws:List Nat):Nat:=
 if ws.length<16 then be32 l ws.length
 else(ws.getD (ws.length-16) 0+Jh (ws.getD (ws.length-15) 0)+ws.getD (ws.length-7) 0+Ji (ws.getD (ws.length-2) 0)) % 4294967296
def bB (l:List UInt8):Nat→List Nat
 |0=>[]
 |k+1=>bB l k++[g9 l (bB l k)]
def gi:List Nat:=[
 0x428a2f98,0x71374491,0xb5c0fbcf,0xe9b5dba5,0x3956c25b,0x59f111f1,0x923f82a4,0xab1c5ed5,
 0xd807aa98,0x12835b01,0x243185be,0x550c7dc3,0x72be5d74,0x80deb1fe,0x9bdc06a7,0xc19bf174,
 0xe49b69c1,0xefbe4786,0x0fc19dc6,0x240ca1cc,0x2de92c6f,0x4a7484aa,0x5cb0a9dc,0x76f988da,
 0x983e5152,0xa831c66d,0xb00327c8,0xbf597fc7,0xc6e00bf3,0xd5a79147,0x06ca6351,0x14292967,
 0x27b70a85,0x2e1b2138,0x4d2c6dfc,0x53380d13,0x650a7354,0x766a0abb,0x81c2c92e,0x92722c85,
 0xa2bfe8a1,0xa81a664b,0xc24b8b70,0xc76c51a3,0xd192e819,0xd6990624,0xf40e3585,0x106aa070,
 0x19a4c116,0x1e376c08,0x2748774c,0x34b0bcb5,0x391c0cb3,0x4ed8aa4a,0x5b9cca4f,0x682e6ff3,
 0x748f82ee,0x78a5636f,0x84c87814,0x8cc70208,0x90befffa,0xa4506ceb,0xbef9a3f7,0xc67178f2]
structure S8 where
 a:Nat
 b:Nat
 c:Nat
 d:Nat
 e:Nat
 f:Nat
 g:Nat
 h:Nat
def S8.first:S8:=⟨0x6a09e667,0xbb67ae85,0x3c6ef372,0xa54ff53a,0x510e527f,0x9b05688c,0x1f83d9ab,0x5be0cd19⟩
def S8.l (s:S8):List Nat:=[s.a,s.b,s.c,s.d,s.e,s.f,s.g,s.h]
def KE (s:S8) (k w:Nat):Nat:=s.h+LN s.e+Jj s.e s.f s.g+k+w
def LO (s:S8):Nat:=LM s.a+Jk s.a s.b s.c
def FA (s:S8) (k w:Nat):S8:=
 ⟨(KE s k w+LO s) % 4294967296,s.a,s.b,s.c,(s.d+KE s k w) % 4294967296,s.e,s.f,s.g⟩
def nA (ws:List Nat) (s:S8):Nat→S8
 |0=>s
 |n+1=>FA (nA ws s n) (gi.getD n 0) (ws.getD n 0)
def S8.add (x y:S8):S8:=
 ⟨(x.a+y.a) % 4294967296,(x.b+y.b) % 4294967296,(x.c+y.c) % 4294967296,(x.d+y.d) % 4294967296,
  (x.e+y.e) % 4294967296,(x.f+y.f) % 4294967296,(x.g+y.g) % 4294967296,(x.h+y.h) % 4294967296⟩
def CN (s:S8) (blk:List UInt8):S8:=(nA (bB blk 64) s 64).add s
def blocks:Nat→S8→List UInt8→S8
 |0,s,_=>s
 |n+1,s,l=>blocks n (CN s (l.take 64)) (l.drop 64)
def beBytes:Nat→Nat→List UInt8
 |0,_=>[]
 |w+1,n=>beBytes w (n/256)++[UInt8.ofNat (n % 256)]
def lq (n:Nat):List UInt8:=128::(List.replicate (63-(n+8) % 64) 0++beBytes 8 (8*n))
def S8.text (s:S8):List UInt8:=
 beBytes 4 s.a++beBytes 4 s.b++beBytes 4 s.c++beBytes 4 s.d++beBytes 4 s.e++beBytes 4 s.f++beBytes 4 s.g++beBytes 4 s.h
def eh (m:List UInt8):List UInt8:=(blocks ((m++lq m.length).length/64) S8.first (m++lq m.length)).text
theorem beBytes_length (w n:Nat):(beBytes w n).length=w:=by
 induction w generalizing n with
 |zero=>rfl
 |succ w ih=>simp[beBytes,ih]
theorem S8.text_length (s:S8):s.text.length=32:=by simp[S8.text,beBytes_length]
theorem cT (m:List UInt8):(eh m).length=32:=S8.text_length _
theorem A9 (n:Nat):(lq n).length=72-(n+8) % 64:=by
 simp[lq,beBytes_length];omega
theorem ek (l:List UInt8) (k:Nat):(bB l k).length=k:=by
 induction k with
 |zero=>rfl
 |succ k ih=>simp[bB,ih]
theorem nU (x n:Nat):dQ x n<4294967296:=Nat.mod_lt _ (by decide)
theorem y9 {a b:Nat} (c:a<4294967296) (hb:b<4294967296):a^^^b<4294967296:=Nat.xor_lt_two_pow (n:=32) c hb
theorem JJ {a b:Nat} (c:a<4294967296) (hb:b<4294967296):a|||b<4294967296:=Nat.or_lt_two_pow (n:=32) c hb
theorem sy {a b:Nat} (c:a<4294967296):a&&&b<4294967296:=Nat.lt_of_le_of_lt Nat.and_le_left c
theorem JK (l:List UInt8) (i:Nat):be32 l i<4294967296:=by
 have a:=(l.getD (4*i) 0).toNat_lt;have b:=(l.getD (4*i+1) 0).toNat_lt;have c:=(l.getD (4*i+2) 0).toNat_lt;have d:=(l.getD (4*i+3) 0).toNat_lt;unfold be32;omega
theorem Bd (l:List UInt8) (a:List Nat):g9 l a<4294967296:=by
 unfold g9;split
 ·exact JK _ _
 ·exact Nat.mod_lt _ (by decide)
theorem tC (l:List UInt8) (k j:Nat):(bB l k).getD j 0<4294967296:=by
 induction k generalizing j with
 |zero=>simp[bB]
 |succ k ih=>
  simp only[bB,List.getD_eq_getElem?_getD,List.getElem?_append]
  split
  ·have:=ih j;rwa[List.getD_eq_getElem?_getD]at this
  ·cases h:j-(bB l k).length with
   |zero=>simp[Bd]
   |succ n=>simp
def S8.ok (s:S8):Prop:=s.a<4294967296∧s.b<4294967296∧s.c<4294967296∧s.d<4294967296∧s.e<4294967296∧s.f<4294967296∧s.g<4294967296∧s.h<4294967296
theorem S8.first_ok:S8.first.ok:=by unfold S8.ok S8.first;decide
theorem KF {s:S8} (h:s.ok) (k w:Nat):(FA s k w).ok:=by
 obtain⟨a,b,c,g,d,e,f,i⟩:=h;exact⟨Nat.mod_lt _ (by decide),a,b,c,Nat.mod_lt _ (by decide),d,e,f⟩
theorem JL (a:List Nat) {s:S8} (h:s.ok) (n:Nat):(nA a s n).ok:=by
 induction n with
 |zero=>exact h
 |succ n ih=>exact KF ih _ _
theorem S8.add_ok (x y:S8):(x.add y).ok:=
 ⟨Nat.mod_lt _ (by decide),Nat.mod_lt _ (by decide),Nat.mod_lt _ (by decide),Nat.mod_lt _ (by decide),Nat.mod_lt _ (by decide),Nat.mod_lt _ (by decide),Nat.mod_lt _ (by decide),Nat.mod_lt _ (by decide)⟩
theorem KG (s:S8) (a:List UInt8):(CN s a).ok:=S8.add_ok _ _
theorem wu (n:Nat) {s:S8} (h:s.ok) (l:List UInt8):(blocks n s l).ok:=by
 induction n generalizing s l with
 |zero=>exact h
 |succ n ih=>exact ih (KG _ _) _
theorem xF (n m:Nat) (s:S8) (x y:List UInt8) (a:x.length=64*n):blocks (n+m) s (x++y)=blocks m (blocks n s x) y:=by
 induction n generalizing s x with
 |zero=>have:x=[]:=List.eq_nil_of_length_eq_zero (by omega);subst this;simp[blocks]
 |succ n ih=>
  rw[show n+1+m=(n+m)+1 by omega];simp only[blocks];rw[List.take_append_of_le_length (by omega),List.drop_append_of_le_length (by omega),ih _ _ (by simp;omega)]
theorem Bf (n:Nat) (s:S8) (x:List UInt8):blocks n s (x.take (64*n))=blocks n s x:=by
 induction n generalizing s x with
 |zero=>simp[blocks]
 |succ n ih=>
  simp only[blocks];rw[List.take_take,Nat.min_eq_left (by omega),List.drop_take,show 64*(n+1)-64=64*n by omega,ih]
theorem tD (e i:Nat) (a:e<4294967296):(4294967295-e).testBit i=(decide (i<32)&& !e.testBit i):=by
 have:=Nat.testBit_two_pow_sub_succ (n:=32) (x:=e) a i
 simpa using this
theorem KH {e f g:Nat} (a:e<4294967296) (d:g<4294967296):g^^^(e&&&(f^^^g))=Jj e f g:=by
 apply Nat.eq_of_testBit_eq
 intro i;simp only[Jj,Nat.testBit_xor,Nat.testBit_and,Nat.testBit_or,tD e i a]
 by_cases h:i<32
 ·simp[h];cases e.testBit i<;>cases f.testBit i<;>cases g.testBit i<;>rfl
 ·have b:e.testBit i=false:=Nat.testBit_lt_two_pow (Nat.lt_of_lt_of_le a (Nat.pow_le_pow_right (n:=2) (by omega) (by omega:32≤i)))
  have c:g.testBit i=false:=Nat.testBit_lt_two_pow (Nat.lt_of_lt_of_le d (Nat.pow_le_pow_right (n:=2) (by omega) (by omega:32≤i)));simp[b,c]
theorem KI (a b c:Nat):(a&&&b)|||(c&&&(a|||b))=Jk a b c:=by
 apply Nat.eq_of_testBit_eq
 intro i;simp only[Jk,Nat.testBit_and,Nat.testBit_or]
 cases a.testBit i<;>cases b.testBit i<;>cases c.testBit i<;>rfl
open Go.RowKit
def ac (w:World) (b:Nat) (c:List Value) (t:TypeId):Prop:=w.heap[b]?=some (.cells c.toArray t (0,0))
section
variable {w:World} {b:Nat} {c:List Value} {t:TypeId}
theorem ac.lt (h:ac w b c t):b<w.heap.size:=by
 unfold ac at h
 exact(Array.getElem?_eq_some_iff.1 h).1
theorem ac.cell? (h:ac w b c t) (i:Nat):w.cell? ⟨b,i,none⟩=c[i]?:=by
 unfold ac at h;simp[World.cell?,h]
theorem ac.cell (h:ac w b c t) {i:Nat} {v:Value} (a:c[i]?=some v):w.cell? ⟨b,i,none⟩=some v:=by rw[h.cell?,a]
theorem ac.free (h:ac w b c t) (i:Nat):w.frozen? ⟨b,i,none⟩=false:=by
 unfold ac at h;simp[World.frozen?,h]
theorem ac.set (h:ac w b c t) (i:Nat) (v:Value):ac (w.setCell ⟨b,i,none⟩ v) b (c.set i v) t:=by
 unfold ac at h ⊢;simp only[World.setCell,Array.getElem?_modify,h];simp
theorem ac.set_other (h:ac w b c t) {a:Addr} (d:b≠a.block) (v:Value):ac (w.setCell a v) b c t:=by
 unfold ac at h ⊢;rw[Below.heap_setCell _ _ _ _ d,h]
theorem ac.alloc (h:ac w b c t) (o:Obj):ac (w.alloc o) b c t:=by
 have:=h.lt
 unfold ac at h ⊢;rw[Below.heap_alloc _ _ _ this,h]
theorem ac.new (w:World) (c:List Value) (t:TypeId):ac (w.alloc (.cells c.toArray t)) w.heap.size c t:=by
 unfold ac
 show(w.heap.push _)[w.heap.size]?= _
 simp
theorem ac.drewN (h:ac w b c t) (n:Nat):ac (w.drewN n) b c t:=by
 unfold ac at h ⊢;exact h
theorem ac.drew (h:ac w b c t):ac w.drew b c t:=h
theorem ac.below (h:ac w b c t) {B:Nat} {a:World} (hb:Below B w a) (d:b<B):ac a b c t:=by
 unfold ac at h ⊢;rw[hb.block b d,h]
theorem ac.ext (h:ac w b c t) {a:List Value} (e:c=a):ac w b a t:=e ▸ h
theorem ac.range (h:ac w b c t):w.rangeAt b 0 c:=by
 intro j v a;rw[Nat.zero_add];exact h.cell a
end
theorem eo {P:Program} {f:FuncId} {args:Array Value} {w:World} {v:Value} (h:Calls P f args w fun e d=>e= .returned v∧w=d):
  Calls P f args w fun e c=>e= .returned v∧c=w:=h.mono fun _ _ ⟨a,b⟩=>⟨a,b.symm⟩
theorem World.there_of {w:World} {b:Nat} {c:List Value} {t:TypeId} (h:ac w b c t) {n:Nat} (hn:n=c.length):w.there b 0 n:=by
 intro j a;subst hn;rw[Nat.zero_add];exact⟨by rw[h.cell?];simp[a],h.free j⟩
theorem ac.setCells {b:Nat} {t:TypeId} (a:List Value):∀{w:World} {c:List Value} (o:Nat),ac w b c t→o+a.length≤c.length→
  ac (w.setCells b o a) b (c.take o++a++c.drop (o+a.length)) t:=by
 induction a with
 |nil=>intro w c o h _;simpa[World.setCells]using h
 |cons v r ih=>
  intro w c o h hl;simp only[List.length_cons]at hl
  have:=ih (o+1) (h.set o v) (by simp;omega)
  refine ac.ext this ?_
  have d:(c.set o v).take (o+1)=c.take o++[v]:=by
   rw[List.take_set,List.take_succ_eq_append_getElem (by omega),List.set_append_right _ _ (by simp;omega)];simp[Nat.min_eq_left (by omega:o≤c.length)]
  rw[d,List.drop_set_of_lt (by omega)];simp[Nat.add_assoc,Nat.add_comm 1]
theorem ac.setAll {w:World} {b:Nat} {c:List Value} {t:TypeId} (h:ac w b c t) (a:List Value) (hl:a.length=c.length):ac (w.setCells b 0 a) b a t:=by
 have:=h.setCells a 0 (by omega)
 refine this.ext ?_;simp[hl]
theorem Below.setCells {B:Nat} {a:World} {b:Nat} (hb:B≤b) (c:List Value):∀{w:World} (o:Nat),Below B a w→Below B a (w.setCells b o c):=by
 induction c with
 |nil=>intro w o h;exact h
 |cons v r ih=>intro w o h;exact ih (o+1) (h.setCell hb v)
theorem aB {P:Program} {id:Nat} {Q:Exit→Act→World→Prop} {a:Act} {w:World} {l:List Oper} (d:P.follows .mixedOrders=true) (c:Region.lexB .any l.toArray=true)
  (h:wpStill P l.toArray w.drew (fun b=>Q .normal b w.drew) l a):(Code.region id l.toArray true).wp P Q a w:=wp_region_still_lit d c h
theorem aK {P:Program} {id:Nat} {Q:Exit→Act→World→Prop} {a:Act} {w:World} {l:List Oper} (n:Nat) (d:P.follows .mixedOrders=true) (c:Region.lexTailB .any l.toArray n=true)
  (h:wpStill P l.toArray w.drew (fun b=>wpList P l.toArray Q (l.drop n) b w.drew) (l.take n) a):(Code.region id l.toArray true).wp P Q a w:=wp_region_still_tail n d c h
theorem aj {P:Program} {e:Array Oper} {c:List Oper} {o:Oper} {a:Act} {w:World} {Q:Exit→Act→World→Prop}
  (f:TypeId) (x:Operand) (b:Nat) (cs:List Value) (t:TypeId) (d:TypeDesc) (hb:ac w b cs t)
  (hu:P.underlying f=some d) (hd:d.isRow=true) (i:(P.info? f).map (·.size)=some cs.length)
  (g:o.guard=none) (j:o.op= .load f x) (k:a.eval x= .pointer (some ⟨b,0,none⟩))
  (h:wpList P e Q c (a.put o.dst (.agg cs.toArray)) w):wpList P e Q (o::c) a w:=
 wpList_load_mid g f x j b 0 k cs d hb.range hu hd i h
theorem jE {P:Program} {e:Array Oper} {c:List Oper} {o:Oper} {a:Act} {w:World} {Q:Exit→Act→World→Prop}
  (g:TypeId) (x y:Operand) (b:Nat) (d cs:List Value) (t:TypeId) (hb:ac w b d t) (hl:cs.length=d.length)
  (j:(P.info? g).map (·.size)=some cs.length) (i:∀v∈cs,v.oneCell'=true)
  (f:o.guard=none) (k:o.op= .store g x y) (l:a.eval x= .pointer (some ⟨b,0,none⟩)) (hy:a.eval y= .agg cs.toArray)
  (h:wpList P e Q c (a.put o.dst undef) (w.setCells b 0 cs)):wpList P e Q (o::c) a w:=
 wpList_store_mid f g x y k b 0 cs.toArray l hy (World.there_of hb (by simpa using hl)) (by simpa using j) (all_oneCell_toArray i) (by simpa using h)
theorem au {P:Program} {d:Array Oper} {c:List Oper} {o:Oper} {a:Act} {w:World} {Q:Exit→Act→World→Prop}
  (t:TypeId) (parts:Array (Nat×Operand)) (b:List Value) (f:o.guard=none) (g:o.op= .build t parts)
  (e:P.built t (parts.map fun(i,x)=>(i,a.eval x)).toList=some b.toArray)
  (h:wpList P d Q c (a.put o.dst (.agg b.toArray)) w):wpList P d Q (o::c) a w:=
 wpList_build f t parts g (by rw[e];rfl) (by rw[e];exact h)
structure de (b:Nat) (w w':World):Prop where
 os:w'.os=w.os
 tape:w'.tape=w.tape
 output:w'.output=w.output
 size:w'.heap.size=w.heap.size
 block:∀k,k≠b→w'.heap[k]?=w.heap[k]?
theorem de.blk {b:Nat} {w d:World} (h:de b w d) {b':Nat} {c:List Value} {t:TypeId} (hb:ac w b' c t) (a:b'≠b):ac d b' c t:=by
 unfold ac at hb ⊢;rw[h.block b' a,hb]
theorem de.below {b B:Nat} {a w w':World} (h:de b w w') (hb:Below B a w) (c:B≤b):Below B a w':=
 hb.trans ⟨h.os,h.tape,h.output,by rw[h.size];exact Nat.le_refl _,fun k d=>h.block k (by omega)⟩
theorem de.refl (b:Nat) (w:World):de b w w:=⟨rfl,rfl,rfl,rfl,fun _ _=>rfl⟩
theorem de.setCell {b:Nat} {w c:World} (h:de b w c) (i:Nat) (v:Value):de b w (c.setCell ⟨b,i,none⟩ v):=
 ⟨h.os,h.tape,h.output,by simp[World.setCell,h.size],fun k a=>by rw[Below.heap_setCell _ _ _ _ a,h.block k a]⟩
theorem de.setCells {b:Nat} (c:List Value):∀{w a:World} (o:Nat),de b w a→de b w (a.setCells b o c):=by
 induction c with
 |nil=>intro w a o h;exact h
 |cons v r ih=>intro w a o h;exact ih (o+1) (h.setCell o v)
structure Kept (b:Nat) (w w':World):Prop where
 os:w'.os=w.os
 tape:w'.tape=w.tape
 output:w'.output=w.output
 size:w.heap.size≤w'.heap.size
 block:∀k,k<w.heap.size→k≠b→w'.heap[k]?=w.heap[k]?
theorem Kept.refl (b:Nat) (w:World):Kept b w w:=⟨rfl,rfl,rfl,Nat.le_refl _,fun _ _ _=>rfl⟩
theorem Kept.trans {b:Nat} {u v w:World} (h:Kept b u v) (k:Kept b v w):Kept b u w:=
 ⟨k.os.trans h.os,k.tape.trans h.tape,k.output.trans h.output,Nat.le_trans h.size k.size,fun i c a=>(k.block i (Nat.lt_of_lt_of_le c h.size) a).trans (h.block i c a)⟩
theorem Kept.blk {b:Nat} {w d:World} (h:Kept b w d) {b':Nat} {c:List Value} {t:TypeId} (hb:ac w b' c t) (a:b'≠b):ac d b' c t:=by
 have:=hb.lt
 unfold ac at hb ⊢;rw[h.block b' this a,hb]
theorem Kept.below {b B:Nat} {a w w':World} (h:Kept b w w') (hb:Below B a w) (c:B≤b) (e:B≤w.heap.size):Below B a w':=
 hb.trans ⟨h.os,h.tape,h.output,h.size,fun k d=>h.block k (by omega) (by omega)⟩
theorem Kept.only {b:Nat} {u w w':World} (h:Kept b u w) (o:de b w w'):Kept b u w':=
 ⟨o.os.trans h.os,o.tape.trans h.tape,o.output.trans h.output,by rw[o.size];exact h.size,fun i c a=>(o.block i a).trans (h.block i c a)⟩
theorem Kept.below' {b B:Nat} {u w w':World} (h:Kept b u w) (k:Below B w w') (d:w.heap.size≤B):Kept b u w':=
 ⟨k.os.trans h.os,k.tape.trans h.tape,k.output.trans h.output,Nat.le_trans h.size k.size,fun i c a=>(k.block i (by have:=h.size;omega)).trans (h.block i c a)⟩
theorem Kept.setCell {b:Nat} {u w:World} (h:Kept b u w) (i:Nat) (v:Value):Kept b u (w.setCell ⟨b,i,none⟩ v):=h.only ((de.refl b w).setCell i v)
theorem Kept.drewN {b:Nat} {u w:World} (h:Kept b u w) (n:Nat):Kept b u (w.drewN n):=⟨h.os,h.tape,h.output,h.size,h.block⟩
theorem Kept.drew {b:Nat} {u w:World} (h:Kept b u w):Kept b u w.drew:=⟨h.os,h.tape,h.output,h.size,h.block⟩
section
variable {P:Program} {ops:Array Oper} {rest:List Oper} {o:Oper} {a:Act} {w:World} {Q:Exit→Act→World→Prop}
theorem ab (b:TypeId) (z:List Value) (i:∀w,(zeroValue b).run P w= .ok (.agg z.toArray) w) (d:Option Tmp)
  (f:o.guard=none) (g:o.op= .alloc b) (hd:o.dst=d)
  (h:∀n c,w.heap.size≤n→ac c n z b→Below n w c→n<c.heap.size→wpList P ops Q rest (a.put d (.pointer (some ⟨n,0,none⟩))) c):wpList P ops Q (o::rest) a w:=by
 subst hd;refine wpList_plain f fun K e=> ?_
 unfold Oper.wp execOp;simp only[g,Instr.alloc,Sem.run_bind,i,Result.andThen_ok,newVar,newRow,Value.cells,run_newObj,Sem.run_pure];exact e _ _ (h _ _ (Nat.le_refl _) (ac.new w z b) ((Below.refl _ _).alloc (Nat.le_refl _) _) (by simp))
theorem fq (c e:TypeId) (x y:Operand) (cs:List Value) (n k:Nat) (v:Value) (d:Option Tmp)
  (hu:P.underlying c=some (.array n e)) (i:∀w,(isAgg e).run P w= .ok false w) (q:∀w,(sizeOf e).run P w= .ok 1 w)
  (r:k<n) (m:cs[k]?=some v)
  (j:o.guard=none) (l:o.op= .index c x y) (hd:o.dst=d) (p:a.eval x= .agg cs.toArray) (hy:a.eval y= .int .i64 (k:Int))
  (h:wpList P ops Q rest (a.put d v) w):wpList P ops Q (o::rest) a w:=by
 subst hd;refine wpList_plain j fun K g=> ?_
 unfold Oper.wp execOp;have b:cs.toArray[k]?=some v:=by simpa using m
 have f:(0:Int)≤(k:Int)∧(k:Int)<(n:Int):=⟨by omega,by omega⟩;simp only[l,p,hy,Instr.index,asIntOf,Sem.run_bind,Sem.run_pure,Result.andThen_ok,run_underlying hu,if_pos f,q,part,i,Int.toNat_natCast,Nat.mul_one,b];exact g _ _ h
theorem ae (c:TypeId) (x:Operand) (z:List Value) (d:Option Tmp)
  (f:o.guard=none) (g:o.op= .box c x) (hd:o.dst=d) (i:a.eval x= .agg z.toArray)
  (h:∀n b,w.heap.size≤n→ac b n z c→Below n w b→n<b.heap.size→wpList P ops Q rest (a.put d (.pointer (some ⟨n,0,none⟩))) b):wpList P ops Q (o::rest) a w:=by
 subst hd;refine wpList_plain f fun K e=> ?_
 unfold Oper.wp execOp;simp only[g,i,Instr.box,Sem.run_bind,Result.andThen_ok,newVar,newRow,Value.cells,run_newObj,Sem.run_pure];exact e _ _ (h _ _ (Nat.le_refl _) (ac.new w z c) ((Below.refl _ _).alloc (Nat.le_refl _) _) (by simp))
theorem aa (e:TypeId) (x y:Operand) (b:Nat) (c cs:List Value) (t:TypeId) (hb:ac w b c t) (hl:cs.length=c.length)
  (i:(P.info? e).map (·.size)=some cs.length) (g:∀v∈cs,v.oneCell'=true)
  (d:o.guard=none) (j:o.op= .store e x y) (k:a.eval x= .pointer (some ⟨b,0,none⟩)) (hy:a.eval y= .agg cs.toArray)
  (h:∀f,ac f b cs t→de b w f→wpList P ops Q rest (a.put o.dst undef) f):wpList P ops Q (o::rest) a w:=
 jE e x y b c cs t hb hl i g d j k hy (h _ (hb.setAll cs hl) ((de.refl b w).setCells cs 0))
end
theorem ac.rangeMid {w:World} {b:Nat} {x y z:List Value} {t:TypeId} (h:ac w b (x++y++z) t) {off:Nat} (d:off=x.length):w.rangeAt b off y:=by
 intro j v a;subst d;refine h.cell ?_;have c:=(List.getElem?_eq_some_iff.1 a).1;rw[List.append_assoc,List.getElem?_append_right (by omega),Nat.add_sub_cancel_left,List.getElem?_append_left c,a]
theorem Below.drewN {B:Nat} {a w:World} (h:Below B a w) (n:Nat):Below B a (w.drewN n):=⟨h.os,h.tape,h.output,h.size,h.block⟩
def str (l:List UInt8):Value:= .string ⟨l.toArray⟩
def ah (r:ByteArray) (l:List UInt8):Prop:=r.data.toList=l
theorem ah.size {r:ByteArray} {l:List UInt8} (h:ah r l):r.size=l.length:=by
 unfold ah at h;rw[←h];rfl
theorem ah.self (r:ByteArray):ah r r.data.toList:=rfl
theorem ah.mk (l:List UInt8):ah ⟨l.toArray⟩ l:=rfl
theorem ah.eq {r r':ByteArray} {l:List UInt8} (h:ah r l) (c:ah r' l):r=r':=by
 unfold ah at h c
 cases r with|mk a=>cases r' with|mk b=>
 congr 1
 exact Array.toList_inj.1 (h.trans c.symm)
theorem ah.of {r:ByteArray} {l:List UInt8} (h:ah r l):r=⟨l.toArray⟩:=h.eq (ah.mk l)
theorem ah.append {r c:ByteArray} {l b:List UInt8} (h:ah r l) (a:ah c b):ah (r++c) (l++b):=by
 unfold ah at h a ⊢;rw[←h,←a];simp
theorem ah.extract {r:ByteArray} {l:List UInt8} (h:ah r l) (a b:Nat):ah (r.extract a b) ((l.take b).drop a):=by
 unfold ah at h ⊢;rw[←h,ByteArray.data_extract,Array.toList_extract];simp[List.extract,List.drop_take]
theorem ah.cast {r:ByteArray} {l l':List UInt8} (h:ah r l) (e:l=l'):ah r l':=e ▸ h
theorem ah.inj {r:ByteArray} {l l':List UInt8} (h:ah r l) (a:ah r l'):l=l':=h.symm.trans a
def bytesV (l:List UInt8):List Value:=l.map fun b=> .int .u8 ((b.toNat:Nat):Int)
theorem ax (l:List UInt8):(bytesV l).length=l.length:=by simp[bytesV]
theorem eB (l:List UInt8) (i:Nat) (a:i<l.length):(bytesV l)[i]?=some (.int .u8 ((l[i].toNat:Nat):Int)):=by simp[bytesV,a]
theorem cU (l:List UInt8) (i:Nat) (b:UInt8):(bytesV l).set i (.int .u8 ((b.toNat:Nat):Int))=bytesV (l.set i b):=by simp[bytesV,List.map_set]
theorem io (a b:List UInt8):bytesV (a++b)=bytesV a++bytesV b:=by simp[bytesV]
theorem dR (l:List UInt8):∀v∈bytesV l,v.oneCell'=true:=by
 intro v a;obtain⟨_,_,rfl⟩:=List.mem_map.1 a
 rfl
theorem Ds (l:List UInt8) (s:ByteArray):(l.map fun b=>((b.toNat:Nat):Int)).foldl (fun r n=>r.push (UInt8.ofNat n.toNat)) s=⟨s.data++l.toArray⟩:=by
 induction l generalizing s with
 |nil=>simp
 |cons b r ih=>
  rw[List.map_cons,List.foldl_cons,ih];simp[ByteArray.push]
theorem mt {P:Program} (w:World) (a:Addr) (l:List UInt8) (d c:Nat) (hl:d=l.length)
  (h:∀j v,(bytesV l)[j]?=some v→w.cell? (a.add j)=some v):
  (Conv.bytesToString (.slice (some a) d c)).run P w= .ok (str l) w:=by
 subst hl
 have:=run_loadCells_list (P:=P) w a (bytesV l) h
 rw[ax]at this;have e:=run_bytesToString (P:=P) w a l.length c (l.map fun b=>((b.toNat:Nat):Int)) (by rw[this];congr 2;simp[bytesV,Function.comp_def]);rw[e,Ds];simp[str,ByteArray.empty,ByteArray.emptyWithCapacity]
 rfl
section
variable {P:Program} {ops:Array Oper} {rest:List Oper} {o:Oper} {a:Act} {w:World} {Q:Exit→Act→World→Prop}
theorem dw (g c e:TypeId) (x:Operand) (l:List UInt8) (b off f i:Nat) (d:Option Tmp)
  (s:P.underlying g=some (.slice e)) (n:P.underlying e=some (.int .u8)) (hd:P.underlying c=some .string)
  (r:w.rangeAt b off (bytesV l)) (hl:f=l.length)
  (p:o.guard=none) (q:o.op= .convert g c x) (k:o.dst=d) (u:a.eval x= .slice (some ⟨b,off,none⟩) f i)
  (h:wpList P ops Q rest (a.put d (str l)) w):wpList P ops Q (o::rest) a w:=by
 subst k;refine wpList_plain p fun K m=> ?_
 unfold Oper.wp execOp;simp only[q,u,Sem.run_bind];rw[run_convert_bytes_string w g c e _ _ _ s n hd,mt w _ l f i hl (fun j v t=>by rw[Addr.add_mid];exact r j v t)];exact m _ _ h
theorem rl (t e:TypeId) (x y:Operand) (n:Nat) (d:Option Tmp) (L:Int)
  (q:P.underlying t=some (.slice e)) (f:(P.info? e).map (fun i=>(i.zero,i.size,i.bytes))=some (some (.int .u8 0),1,1))
  (hn:n≤281474976710656) (l:L=(n:Int))
  (m:o.guard=none) (p:o.op= .makeSlice t x y) (b:o.dst=d) (r:a.eval x= .int .i64 L) (hy:a.eval y= .int .i64 L)
  (h:∀g c,w.heap.size≤g→ac c g (bytesV (List.replicate n 0)) e→Below g w c→g<c.heap.size→wpList P ops Q rest (a.put d (.slice (some ⟨g,0,none⟩) n n)) c):
  wpList P ops Q (o::rest) a w:=by
 subst b l;refine wpList_plain m fun K k=> ?_
 cases hq:P.info? e with
 |none=>simp[hq]at f
 |some i=>
  simp only[hq,Option.map_some,Option.some.injEq,Prod.mk.injEq]at f;obtain⟨s,u,v⟩:=f
  have:=run_make (P:=P) w t e i _ q hq s .i64 .i64 (n:Int) (n:Int) (by omega) (by omega) (by rw[v];omega) (by omega)
  unfold Oper.wp execOp;simp only[p,r,hy,Sem.run_bind,this,Result.andThen_ok,Sem.run_pure];rw[u,Int.toNat_natCast,Nat.mul_one]
  have j:(madeCells (Value.cells (.int .u8 0)) n)=(bytesV (List.replicate n 0)).toArray:=by
   have:=toList_madeCells_one (.int .u8 0) n
   apply Array.toList_inj.1
   rw[show Value.cells (.int .u8 0)=#[.int .u8 0]from rfl,this];simp[bytesV]
  rw[j];exact k _ _ (h _ _ (Nat.le_refl _) (ac.new w _ e) ((Below.refl _ _).alloc (Nat.le_refl _) _) (by simp))
end
def Row (w:World) (b:Nat) (c:List Value) (t:TypeId):Prop:=
 ∃fr:Nat×Nat,w.heap[b]?=some (.cells c.toArray t fr)∧∀i,i<c.length→¬(fr.1≤i∧i<fr.2)
section
variable {w:World} {b:Nat} {c:List Value} {t:TypeId}
theorem ac.row (h:ac w b c t):Row w b c t:=⟨(0,0),h,fun i _=>by simp⟩
theorem Row.lt (h:Row w b c t):b<w.heap.size:=by
 obtain⟨fr,h,_⟩:=h
 exact(Array.getElem?_eq_some_iff.1 h).1
theorem Row.cell? (h:Row w b c t) (i:Nat):w.cell? ⟨b,i,none⟩=c[i]?:=by
 obtain⟨fr,h,_⟩:=h;simp[World.cell?,h]
theorem Row.cell (h:Row w b c t) {i:Nat} {v:Value} (a:c[i]?=some v):w.cell? ⟨b,i,none⟩=some v:=by rw[h.cell?,a]
theorem Row.free (h:Row w b c t) {i:Nat} (d:i<c.length):w.frozen? ⟨b,i,none⟩=false:=by
 obtain⟨fr,h,a⟩:=h
 have:=a i d
 simp[World.frozen?,h];omega
theorem Row.set (h:Row w b c t) (i:Nat) (v:Value):Row (w.setCell ⟨b,i,none⟩ v) b (c.set i v) t:=by
 obtain⟨fr,h,a⟩:=h;refine⟨fr, ?_,by simpa using a⟩;simp only[World.setCell,Array.getElem?_modify,h];simp
theorem Row.set_other (h:Row w b c t) {a:Addr} (d:b≠a.block) (v:Value):Row (w.setCell a v) b c t:=by
 obtain⟨fr,h,e⟩:=h;exact⟨fr,by rw[Below.heap_setCell _ _ _ _ d,h],e⟩
theorem Row.alloc (h:Row w b c t) (o:Obj):Row (w.alloc o) b c t:=by
 have hl:=h.lt;obtain⟨fr,h,a⟩:=h;exact⟨fr,by rw[Below.heap_alloc _ _ _ hl,h],a⟩
theorem Row.drew (h:Row w b c t):Row w.drew b c t:=h
theorem Row.drewN (h:Row w b c t) (n:Nat):Row (w.drewN n) b c t:=h
theorem Row.below (h:Row w b c t) {B:Nat} {a:World} (hb:Below B w a) (d:b<B):Row a b c t:=by
 obtain⟨fr,h,e⟩:=h;exact⟨fr,by rw[hb.block b d,h],e⟩
theorem Row.ext (h:Row w b c t) {a:List Value} (e:c=a):Row w b a t:=e ▸ h
theorem Row.kept (hb:Row w b c t) {d:Nat} {e:World} (h:Kept d w e) (a:b≠d):Row e b c t:=by
 have hl:=hb.lt;obtain⟨fr,hb,f⟩:=hb;exact⟨fr,by rw[h.block b hl a,hb],f⟩
theorem Row.only (hb:Row w b c t) {d:Nat} {e:World} (h:de d w e) (a:b≠d):Row e b c t:=by
 obtain⟨fr,hb,f⟩:=hb;exact⟨fr,by rw[h.block b a,hb],f⟩
theorem Row.rangeMid {x y z:List Value} (h:Row w b (x++y++z) t) {off:Nat} (d:off=x.length):w.rangeAt b off y:=by
 intro j v a;subst d;refine h.cell ?_;have c:=(List.getElem?_eq_some_iff.1 a).1;rw[List.append_assoc,List.getElem?_append_right (by omega),Nat.add_sub_cancel_left,List.getElem?_append_left c,a]
theorem Row.range {x z:List Value} (h:Row w b (x++z) t):w.rangeAt b 0 x:=Row.rangeMid (x:=[]) (y:=x) (z:=z) (by simpa using h) rfl
end
section
variable {P:Program} {ops:Array Oper} {rest:List Oper} {o:Oper} {a:Act} {w:World} {Q:Exit→Act→World→Prop}
theorem cd (b:TypeId) (z:Value) (j:∀w,(zeroValue b).run P w= .ok z w) (e:z.oneCell'=true) (d:Option Tmp)
  (g:o.guard=none) (i:o.op= .alloc b) (hd:o.dst=d)
  (h:∀n c,w.heap.size≤n→ac c n [z] b→Below n w c→n<c.heap.size→wpList P ops Q rest (a.put d (.pointer (some ⟨n,0,none⟩))) c):wpList P ops Q (o::rest) a w:=by
 subst hd;refine wpList_plain g fun K f=> ?_
 unfold Oper.wp execOp;have hc:z.cells=[z].toArray:=by cases z<;>first|rfl|simp[Value.oneCell']at e
 simp only[i,Instr.alloc,Sem.run_bind,j,Result.andThen_ok,newVar,newRow,hc,run_newObj,Sem.run_pure];exact f _ _ (h _ _ (Nat.le_refl _) (ac.new w [z] b) ((Below.refl _ _).alloc (Nat.le_refl _) _) (by simp))
theorem aO (c:TypeId) (x:Operand) (z:Value) (e:z.oneCell'=true) (d:Option Tmp)
  (g:o.guard=none) (i:o.op= .box c x) (hd:o.dst=d) (j:a.eval x=z)
  (h:∀n b,w.heap.size≤n→ac b n [z] c→Below n w b→n<b.heap.size→wpList P ops Q rest (a.put d (.pointer (some ⟨n,0,none⟩))) b):wpList P ops Q (o::rest) a w:=by
 subst hd;refine wpList_plain g fun K f=> ?_
 unfold Oper.wp execOp;have hc:z.cells=[z].toArray:=by cases z<;>first|rfl|simp[Value.oneCell']at e
 simp only[i,j,Instr.box,Sem.run_bind,Result.andThen_ok,newVar,newRow,hc,run_newObj,Sem.run_pure];exact f _ _ (h _ _ (Nat.le_refl _) (ac.new w [z] c) ((Below.refl _ _).alloc (Nat.le_refl _) _) (by simp))
theorem bi (t e:TypeId) (c:Nat) (parts:Array (Nat×Operand)) (b:List Value) (z:Value) (f k:Nat) (d:Option Tmp)
  (hu:P.underlying t=some (.slice e)) (l:(P.info? e).map (fun i=>(i.zero,i.size,i.bytes))=some (some z,f,k)) (u:c*f≤16777216) (m:0<c*f)
  (r:o.guard=none) (s:o.op= .buildSlice t c parts) (hd:o.dst=d)
  (q:Instr.fill (fun i=>some (i*f,f)) ((Array.range (c*f)).map (z.cells[· % z.cells.size]!)) (parts.map fun(i,x)=>(i,a.eval x)).toList=some b.toArray)
  (h:∀g j,w.heap.size≤g→ac j g b e→Below g w j→g<j.heap.size→wpList P ops Q rest (a.put d (.slice (some ⟨g,0,none⟩) c c)) j):wpList P ops Q (o::rest) a w:=by
 subst hd
 cases hie:P.info? e with
 |none=>simp[hie]at l
 |some ie=>
  simp only[hie,Option.map_some,Option.some.injEq,Prod.mk.injEq]at l;obtain⟨n,p,_⟩:=l;subst p;exact wpList_buildSlice r t e c parts s b.toArray ie z hu hie n (by omega) (by omega) q (h _ _ (Nat.le_refl _) (ac.new w b e) ((Below.refl _ _).alloc (Nat.le_refl _) _) (by simp))
theorem mT (c b e:TypeId) (x:Operand) (s:ByteArray) (d:Option Tmp)
  (u:P.underlying c=some .string) (hd:P.underlying b=some (.slice e)) (n:P.underlying e=some (.int .u8))
  (p:o.guard=none) (t:o.op= .convert c b x) (j:o.dst=d) (v:a.eval x= .string s)
  (h:∀g f z l,w.heap.size≤g→Row l g (bytesV s.data.toList++z) e→Below g w l→g<l.heap.size→s.size+z.length=f→wpList P ops Q rest (a.put d (.slice (some ⟨g,0,none⟩) s.size f)) l):
  wpList P ops Q (o::rest) a w:=by
 subst j;refine wpList_plain p fun K m=> ?_
 unfold Oper.wp execOp;simp only[t,v,Sem.run_bind];rw[Lib.run_convert_string_bytes w c b e s u hd n];have q:=grownCap_ge w s.size 0 e
 have hcells:(Lib.bytesCells w e s)=(bytesV s.data.toList++List.replicate (grownCap w s.size 0 e-s.size) (Value.int .u8 0)).toArray:=by
  apply Array.toList_inj.1
  simp[Lib.bytesCells,bytesV]
 refine m _ _ (h w.heap.size _ (List.replicate (grownCap w s.size 0 e-s.size) (Value.int .u8 0)) _ (Nat.le_refl _) ?_ ?_ ?_ ?_)
 ·refine⟨((Lib.bytesCells w e s).size,(Lib.bytesCells w e s).size+1), ?_, ?_⟩
  ·rw[Lib.bytesWorld_at_new,hcells]
  ·intro i y
   rw[hcells,List.size_toArray]
   show¬(_≤i∧i<_)
   omega
 ·exact⟨rfl,rfl,rfl,by rw[Lib.bytesWorld_size];omega,fun k r=>Lib.bytesWorld_at_old w e s k r⟩
 ·rw[Lib.bytesWorld_size];omega
 ·rw[List.length_replicate];omega
end
section
variable {w w':World} {base:Nat} {e:TypeId} {size:Nat} {v:Value} {n:Nat} {xs:List Value}
theorem below_grown (h:Below w.heap.size w w'):w.grownBy w' none:=⟨h.os,h.tape,h.output,h.size,fun k a _=>h.block k a⟩
theorem own_below (h:Below w.heap.size w w') (a:w.ownsRow base e size v n xs):w'.ownsRow base e size v n xs:=
 a.kept (below_grown h) (by cases b:v.ownBlock<;>simp)
theorem ac.grown {a:Option Nat} {b:Nat} {c:List Value} {t:TypeId} (h:ac w b c t) (e:w.grownBy w' a) (d:some b≠a):ac w' b c t:=by
 have:=h.lt
 unfold ac at h ⊢;rw[e.block b this d,h]
theorem own_ne (h:w.ownsRow base e size v n xs) {b:Nat} (hb:b<base):some b≠v.ownBlock:=by
 intro a
 have:=(h.lt b a.symm).1
 omega
theorem dH {b:World} {B:Nat} (hb:Below B b w) (h:w.ownsRow base e size v n xs) (a:w.grownBy w' v.ownBlock) (c:B≤base) (f:B≤w.heap.size):Below B b w':=
 hb.trans ⟨a.os,a.tape,a.output,a.size,fun k d=>a.block k (by omega) (own_ne h (by omega))⟩
theorem tG {c:World} {B b:Nat} (hb:Below B c w) (a:w.grownBy w' (some b)) (d:B≤b) (f:B≤w.heap.size):Below B c w':=
 hb.trans ⟨a.os,a.tape,a.output,a.size,fun k e=>a.block k (by omega) (by intro h;injection h;omega)⟩
theorem wv (w:World) (b i:Nat) (v:Value):w.grownBy (w.setCell ⟨b,i,none⟩ v) (some b):=
 ⟨rfl,rfl,rfl,by simp[World.setCell],fun k _ hne=>Below.heap_setCell _ _ _ _ (by intro h;exact hne (by rw[h]))⟩
theorem pU {b:Nat} (h:w.ownsRow base e size v n xs) (c:w.grownBy w' (some b)) (hb:b<base):w'.ownsRow base e size v n xs:=
 h.kept c (.inr (fun a=>own_ne h hb a.symm))
theorem JM (h:w.ownsRow base e size v n xs) {b i:Nat} {u:Value} (hb:b<base):(w.setCell ⟨b,i,none⟩ u).ownsRow base e size v n xs:=
 pU h (wv w b i u) hb
theorem zb {b:Nat} (h:w.ownsRow base e size v n xs) (o:de b w w') (hb:b<base):w'.ownsRow base e size v n xs:=
 pU h ⟨o.os,o.tape,o.output,Nat.le_of_eq o.size.symm,fun k _ hne=>o.block k (by intro h;exact hne (by rw[h]))⟩ hb
theorem own_base {a:Nat} (h:w.ownsRow base e size v n xs) (hb:a≤base):w.ownsRow a e size v n xs:=by
 refine⟨h.1,h.2.imp id ?_⟩;rintro⟨g,b,c,d,i,f⟩;exact⟨g,b,c,d,by omega,f⟩
theorem bI {b:Nat} {c:List Value} {t:TypeId} (h:ac w b c t):∀(j:Nat) (u:Value),c[j]?=some u→w.cell? ((⟨b,0,none⟩:Addr).add j)=some u:=by
 intro j u hu;rw[Addr.add_mid,Nat.zero_add];exact h.cell hu
theorem ba (h:w.ownsRow base e size v n xs) (hn:0<n):∃g a z,v= .slice (some ⟨g,0,none⟩) n a∧n≤a∧base≤g∧ac w g (xs++z) e:=by
 rcases h.2 with⟨_,h0⟩|⟨g,a,cur,rfl,hb,hg,hc,_,_,ht⟩
 ·omega
 ·refine⟨g,a,cur.toList.drop (n*size),rfl,hc,hb, ?_⟩
  unfold ac;rw[hg,←ht,List.take_append_drop]
theorem lX (h:w.ownsRow base e size v 0 xs):∃(p:Option Addr) (c:Nat),v= .slice p 0 c:=by
 rcases h.2 with⟨h0,_⟩|⟨g,cap,cur,rfl,_⟩
 ·exact⟨_,_,h0⟩
 ·exact⟨_,_,rfl⟩
theorem az (h:w.ownsRow base e size v n xs):∃(p:Option Addr) (c:Nat),v= .slice p n c:=by
 rcases h.2 with⟨h0,h1⟩|⟨g,cap,cur,rfl,_⟩
 ·subst h1;exact⟨_,_,h0⟩
 ·exact⟨_,_,rfl⟩
end
section
variable {P:Program} {w:World} {d:Nat} {xs ys:Array Value} {f:Field} {fs:List Field} {r:Bool}
theorem nV:(Op.eqFields d xs ys []).run P w= .ok true w:=by simp[Op.eqFields]
theorem gj {k c:IntKind} {a b:Int} (hn:f.name≠ "_") (g:(part f.type xs f.offset).run P w= .ok (.int k a) w) (hy:(part f.type ys f.offset).run P w= .ok (.int k b) w)
  (hu:P.underlying f.type=some (.int c)) (e:(Op.eqFields (d+1) xs ys fs).run P w= .ok r w):(Op.eqFields (d+1) xs ys (f::fs)).run P w= .ok (a==b&&r) w:=by
 simp only[Op.eqFields,ne_eq,hn,not_false_eq_true,if_true,Sem.run_bind,g,hy,Result.andThen_ok,run_equalIn_int w d f.type k c a b hu]
 cases h:a==b<;>simp[e]
theorem FB (a b:ByteArray):(a==b)=decide (a=b):=by
 have h:(a==b)=(a.data==b.data):=by obtain⟨x⟩:=a;obtain⟨y⟩:=b;rfl
 rw[h,Bool.eq_iff_iff];obtain⟨x⟩:=a;obtain⟨y⟩:=b;simp
theorem qS {a b:ByteArray} (hn:f.name≠ "_") (e:(part f.type xs f.offset).run P w= .ok (.string a) w) (hy:(part f.type ys f.offset).run P w= .ok (.string b) w)
  (hu:P.underlying f.type=some .string) (c:(Op.eqFields (d+1) xs ys fs).run P w= .ok r w):(Op.eqFields (d+1) xs ys (f::fs)).run P w= .ok (decide (a=b)&&r) w:=by
 simp only[Op.eqFields,ne_eq,hn,not_false_eq_true,if_true,Sem.run_bind,e,hy,Result.andThen_ok,run_equalIn_string w d f.type a b hu,←beq_toListBytes,FB]
 cases h:decide (a=b)<;>simp[c]
theorem CO {a b:Array Value} {q:Bool} (hn:f.name≠ "_") (g:(part f.type xs f.offset).run P w= .ok (.agg a) w) (hy:(part f.type ys f.offset).run P w= .ok (.agg b) w)
  (c:(Op.equalIn d f.type (.agg a) (.agg b)).run P w= .ok q w) (e:(Op.eqFields d xs ys fs).run P w= .ok r w):(Op.eqFields d xs ys (f::fs)).run P w= .ok (q&&r) w:=by
 simp only[Op.eqFields,ne_eq,hn,not_false_eq_true,if_true,Sem.run_bind,g,hy,Result.andThen_ok,c]
 cases q<;>simp[e]
theorem kY {t:TypeId} {gs:Array Field} (hu:P.underlying t=some (.struct gs)) (hp:P.stoodInHeld t=false) (h:(Op.eqFields d xs ys gs.toList).run P w= .ok r w):(Op.equalIn (d+1) t (.agg xs) (.agg ys)).run P w= .ok r w:=by
 have a:P.fieldsOf t=gs:=by unfold Program.fieldsOf;rw[hu]
 rw[run_equalIn_agg w d t xs ys (by rw[a];exact hu) hp,a];exact h
end
section
variable {P:Program} {ops:Array Oper} {rest:List Oper} {o:Oper} {a:Act} {w:World} {Q:Exit→Act→World→Prop}
theorem xG (t j:TypeId) (x y:Operand) (xs b:Array Value) (r:Bool) (d:Option Tmp)
  (e:P.eqGuardType P.depth t=false) (g:(Op.equalIn 10000 t (.agg xs) (.agg b)).run P w= .ok r w)
  (c:Region.wanted o (yielded ops a.tmps)=true) (f:o.op= .binOp .eql t x y j) (hd:o.dst=d) (i:a.eval x= .agg xs) (hy:a.eval y= .agg b)
  (h:wpList P ops Q rest (a.put d (.bool r)) w):wpList P ops Q (o::rest) a w:=by
 subst hd;unfold wpList;rw[if_pos c];refine .inl ?_;unfold Oper.wp execOp;simp only[f,i,hy,Sem.run_bind,run_eqGuard_agg w _ t x y xs b e,Result.andThen_ok,run_eql_struct,g,Sem.run_pure];exact h
theorem u4 (t j:TypeId) (x y:Operand) (xs b:Array Value) (r:Bool) (d:Option Tmp)
  (e:P.eqGuardType P.depth t=false) (g:(Op.equalIn 10000 t (.agg xs) (.agg b)).run P w= .ok r w)
  (c:Region.wanted o (yielded ops a.tmps)=true) (f:o.op= .binOp .neq t x y j) (hd:o.dst=d) (i:a.eval x= .agg xs) (hy:a.eval y= .agg b)
  (h:wpList P ops Q rest (a.put d (.bool (!r))) w):wpList P ops Q (o::rest) a w:=by
 subst hd;unfold wpList;rw[if_pos c];refine .inl ?_;unfold Oper.wp execOp;simp only[f,i,hy,Sem.run_bind,run_eqGuard_agg w _ t x y xs b e,Result.andThen_ok,run_neq_struct,g,Sem.run_pure];exact h
end
theorem zc (n:Nat):Lib.repeatL [0] n=List.replicate n (0:UInt8):=by
 induction n with
 |zero=>rfl
 |succ n ih=>rw[List.replicate_succ,←ih];rfl
theorem kw (c:Nat) (w:World) (hc:c≤1073741824):
  Calls prog 21 #[.string ⟨#[0]⟩, .int .i64 c] w fun e w'=>∃r,e= .returned (.string r)∧ah r (List.replicate c 0)∧Below w.heap.size w w':=by
 have a:(⟨#[0]⟩:ByteArray).size=1:=rfl
 refine(strings_Repeat ⟨#[0]⟩ c w (by omega) (by rw[a];omega)).mono ?_
 rintro e w' ⟨rfl,hb⟩;exact⟨_,rfl,(ah.mk _).cast (zc c),hb⟩
theorem Dt (s:ByteArray) (w:World) (a:s.size≤281474976710656):
  Calls prog 224 #[.string s] w fun e w'=>e= .returned (.string s)∧Below w.heap.size w w':=by
 go_enter func224,ntmps224;go_wp2_with fail
 refine(stringslite_Clone s w a).mono ?_
 rintro e w' ⟨rfl,hb⟩;go_wp2_with fail;go_ret;exact⟨rfl,hb⟩
theorem bt {a b c:World} (h:RowKit.Below a.heap.size a b) (k:RowKit.Below b.heap.size b c):RowKit.Below a.heap.size a c:=h.trans (k.mono h.size)
def Ends (ok:Prop) (l:List UInt8) (c:Int) (e:Ending):Prop:=
 (ok∧∃r,e= .returned (.tuple #[.string r, .int .i64 0])∧ah r l)∨(¬ok∧e= .returned (.tuple #[.string ⟨#[]⟩, .int .i64 c]))
theorem Ends.yes {a:Prop} {l:List UInt8} {c:Int} {e:Ending} (h:Ends a l c e) (b:a):∃r,e= .returned (.tuple #[.string r, .int .i64 0])∧ah r l:=by
 rcases h with⟨_,h⟩|⟨h,_⟩
 ·exact h
 ·exact absurd b h
theorem Ends.no {a:Prop} {l:List UInt8} {c:Int} {e:Ending} (h:Ends a l c e) (b:¬a):e= .returned (.tuple #[.string ⟨#[]⟩, .int .i64 c]):=by
 rcases h with⟨h,_⟩|⟨_,h⟩
 ·exact absurd h b
 ·exact h
def cr (k:List UInt8):List UInt8:=if 64<k.length then eh k++List.replicate 32 0 else k++List.replicate (64-k.length) 0
def lC (k:List UInt8) (x:UInt8):List UInt8:=(cr k).map fun c=>c^^^x
def KJ (k m:List UInt8):List UInt8:=lC k 0x36++m
def tH (k m:List UInt8):List UInt8:=lC k 0x5c++eh (KJ k m)
def rA (k m:List UInt8):List UInt8:=eh (tH k m)
theorem nB (k:List UInt8):(cr k).length=64:=by
 unfold cr;split
 ·simp[cT]
 ·simp;omega
theorem jY (k:List UInt8) (x:UInt8):(lC k x).length=64:=by simp[lC,nB]
theorem lE (k m:List UInt8):(rA k m).length=32:=cT _
theorem xH (k m:List UInt8):(tH k m).length=96:=by simp[tH,jY,cT]
def cq (s:List UInt8):List UInt8:=beBytes 4 s.length++s
def lF (label:List UInt8) (ctx:List Nat):List UInt8:=cq label++[UInt8.ofNat ctx.length]++ctx.flatMap (beBytes 8)
def dI (label:List UInt8) (ctx:List Int):Bool:=decide (1≤label.length)&&decide (label.length≤16)&&decide (ctx.length≤8)&&ctx.all (fun n=>decide (0≤n))
def piece (master said:List UInt8) (was:List UInt8) (i:Nat):List UInt8:=rA master (was++said++[UInt8.ofNat (i+1)])
def nW (master said:List UInt8):Nat→List UInt8
 |0=>[]
 |k+1=>piece master said (nW master said k) k
def pieces (master said:List UInt8):Nat→List UInt8
 |0=>[]
 |k+1=>pieces master said k++nW master said (k+1)
def qT (master label:List UInt8) (n:Nat):List UInt8:=(pieces master (lF label []) ((n+31)/32)).take n
theorem ch (s:List UInt8):(cq s).length=4+s.length:=by simp[cq,beBytes_length]
theorem mU (b:List Nat):(b.flatMap (beBytes 8)).length=8*b.length:=by
 induction b with
 |nil=>rfl
 |cons a r ih=>simp[List.flatMap_cons,beBytes_length,ih];omega
theorem pV (a:List UInt8) (b:List Nat):(lF a b).length=5+a.length+8*b.length:=by
 unfold lF;rw[List.length_append,List.length_append,ch,mU,List.length_singleton];omega
theorem nX (a b:List UInt8) (k:Nat):(nW a b (k+1)).length=32:=lE _ _
theorem pq (a b:List UInt8) (k:Nat):(pieces a b k).length=32*k:=by
 induction k with
 |zero=>rfl
 |succ k ih=>simp[pieces,ih,nX];omega
theorem mw (a b:List UInt8) (n:Nat):(qT a b n).length=n:=by
 unfold qT;rw[List.length_take,pq];omega
def dS (c:UInt8):Bool:=(decide (97≤c.toNat)&&decide (c.toNat≤122))||(decide (48≤c.toNat)&&decide (c.toNat≤57))
def bN (l:List UInt8):Bool:=decide (1≤l.length)&&decide (l.length≤16)&&l.all dS
structure Rec where
 kind:Int
 epoch:Int
 time:Int
 count:Int
 target:Int
 till:Int
 root:ByteArray
 name:ByteArray
def Rec.cells (r:Rec):List Value:=[.int .i64 r.kind, .int .i64 r.epoch, .int .i64 r.time, .int .i64 r.count, .int .i64 r.target, .int .i64 r.till, .string r.root, .string r.name]
def Rec.v (r:Rec):Value:= .agg #[.int .i64 r.kind, .int .i64 r.epoch, .int .i64 r.time, .int .i64 r.count, .int .i64 r.target, .int .i64 r.till, .string r.root, .string r.name]
def Rec.zero:Rec:=⟨0,0,0,0,0,0,⟨#[]⟩,⟨#[]⟩⟩
def aW (r:Rec):Bool:=
 if r.kind=1 then decide (0≤r.count)&&decide (r.count≤4096)&&decide (r.root.size=32)&&decide (r.target=0)&&decide (r.till=0)&&decide (r.name.size=0)
 else if r.kind=2∨r.kind=5 then decide (0≤r.target)&&decide (r.target<r.epoch)&&decide (0≤r.till)&&decide (r.till≤1099511627776)&&decide (r.count=0)&&decide (r.root.size=0)&&decide (r.name.size=0)
 else if r.kind=3 then decide (0≤r.target)&&decide (r.target<r.epoch)&&bN r.name.data.toList&&decide (r.till=0)&&decide (r.count=0)&&decide (r.root.size=0)
 else if r.kind=4 then bN r.name.data.toList&&decide (r.target=0)&&decide (r.till=0)&&decide (r.count=0)&&decide (r.root.size=0)
 else false
def aI (r:Rec):Bool:=decide (0≤r.epoch)&&decide (r.epoch≤4294967295)&&decide (0≤r.time)&&decide (r.time≤1099511627776)&&aW r
open Go.Proofs Go.Shelf
def KL:Go.Shelf.Ren:=⟨fun|166=>71|240=>150|276=>227|n=>n,fun|37=>147|70=>146|72=>149|75=>152|80=>155|164=>291|n=>n,fun n=>n⟩
theorem CP:Go.Proofs.Lays.n166 prog KL:={
 mixed:=by kernel_rfl
 f166:=func71.trans (congrArg some (by kernel_rfl))
 f240:=func150.trans (congrArg some (by kernel_rfl))
 f276:=func227.trans (congrArg some (by kernel_rfl))
 t0:=underlying0
 a0:=isAgg0
 z0:=sizeOf0
 v0:=zeroValue0
 t3:=underlying3
 a3:=isAgg3
 z3:=sizeOf3
 v3:=zeroValue3
 t4:=underlying4
 a4:=isAgg4
 z4:=sizeOf4
 v4:=zeroValue4
 t9:=underlying9
 a9:=isAgg9
 z9:=sizeOf9
 v9:=zeroValue9
 t20:=underlying20
 a20:=isAgg20
 z20:=sizeOf20
 v20:=zeroValue20
 t37:=underlying147
 a37:=isAgg147
 z37:=sizeOf147
 v37:=zeroValue147
 t70:=underlying146
 a70:=isAgg146
 z70:=sizeOf146
 v70:=zeroValue146
 t72:=underlying149
 a72:=isAgg149
 z72:=sizeOf149
 v72:=zeroValue149
 t75:=underlying152
 a75:=isAgg152
 z75:=sizeOf152
 v75:=zeroValue152
 t164:=underlying291
 a164:=isAgg291
 z164:=sizeOf291
 v164:=zeroValue291}
theorem FC:Builder.Extra prog KL:={
 sizeBuilder:=by kernel_rfl
 liesBuilder:=by kernel_rfl
 t5:=underlying5
 a5:=isAgg5
 z5:=sizeOf5
 v5:=zeroValue5
 infoByte:=by kernel_rfl
 cellsByte:=by kernel_rfl
 sizeByte:=by kernel_rfl
 neB5:=by decide}
def KN:Go.Shelf.Ren:=⟨fun|167=>249|240=>150|276=>227|n=>n,fun|37=>147|70=>146|72=>149|75=>152|80=>155|164=>291|n=>n,fun n=>n⟩
theorem JO:Go.Proofs.Lays.n167 prog KN:={
 mixed:=by kernel_rfl
 f167:=func249.trans (congrArg some (by kernel_rfl))
 f240:=func150.trans (congrArg some (by kernel_rfl))
 f276:=func227.trans (congrArg some (by kernel_rfl))
 t0:=underlying0
 a0:=isAgg0
 z0:=sizeOf0
 v0:=zeroValue0
 t4:=underlying4
 a4:=isAgg4
 z4:=sizeOf4
 v4:=zeroValue4
 t5:=underlying5
 a5:=isAgg5
 z5:=sizeOf5
 v5:=zeroValue5
 t9:=underlying9
 a9:=isAgg9
 z9:=sizeOf9
 v9:=zeroValue9
 t20:=underlying20
 a20:=isAgg20
 z20:=sizeOf20
 v20:=zeroValue20
 t37:=underlying147
 a37:=isAgg147
 z37:=sizeOf147
 v37:=zeroValue147
 t70:=underlying146
 a70:=isAgg146
 z70:=sizeOf146
 v70:=zeroValue146
 t72:=underlying149
 a72:=isAgg149
 z72:=sizeOf149
 v72:=zeroValue149
 t75:=underlying152
 a75:=isAgg152
 z75:=sizeOf152
 v75:=zeroValue152
 t164:=underlying291
 a164:=isAgg291
 z164:=sizeOf291
 v164:=zeroValue291}
theorem KO:Builder.Extra prog KN:={
 sizeBuilder:=by kernel_rfl
 liesBuilder:=by kernel_rfl
 t5:=underlying5
 a5:=isAgg5
 z5:=sizeOf5
 v5:=zeroValue5
 infoByte:=by kernel_rfl
 cellsByte:=by kernel_rfl
 sizeByte:=by kernel_rfl
 neB5:=by decide}
theorem Bi (B b:Nat) (a:List Value) (s:ByteArray) (w:World) (h:Lib.IsBuilder 149 5 B b a w) (hl:a.length+s.size≤140737488355328) (c:B≤w.heap.size):
  Calls prog 71 #[.pointer (some ⟨b,0,none⟩), .string s] w fun e w'=>e= .returned (.tuple #[.int .i64 s.size, .nilIface])∧Lib.BuilderAt 149 5 B b (.pointer (some ⟨b,0,none⟩)) (a++Lib.strCells s) w'∧Below B w w':=
 Any.Builder_WriteString CP FC B b a s w h hl c
theorem FD (B b:Nat) (a:List Value) (c:Int) (w:World) (h:Lib.IsBuilder 149 5 B b a w) (hl:a.length+1≤140737488355328) (d:B≤w.heap.size):
  Calls prog 249 #[.pointer (some ⟨b,0,none⟩), .int .u8 c] w fun e w'=>e= .returned .nilIface∧Lib.BuilderAt 149 5 B b (.pointer (some ⟨b,0,none⟩)) (a++[.int .u8 c]) w'∧Below B w w':=
 Any.Builder_WriteByte JO KO B b a c w h hl d
def gU (w:World) (b:Nat) (l:List UInt8):Prop:=Lib.IsBuilder 149 5 b b (Lib.byteCells l) w
theorem kN (w:World):Sem.run prog (zeroValue 149) w= .ok (.agg ([.pointer none, .slice none 0 0]:List Value).toArray) w:=by kernel_rfl
theorem gU.new {w:World} {b:Nat} (h:ac w b [.pointer none, .slice none 0 0] 149):gU w b []:=
 .inl ⟨Nat.le_refl _, .slice none 0 0,h,World.ownsRow_nil _ _ _ _,by simp[Value.ownBlock]⟩
theorem mV {T e:TypeId} {B b:Nat} {p:Value} {f:List Value} {w w':World} (h:Lib.BuilderAt T e B b p f w) (hb:Below w.heap.size w w'):Lib.BuilderAt T e B b p f w':=by
 have c:=h.lt;obtain⟨i,v,j,a,d⟩:=h;refine⟨i,v,by rw[hb.block b c,j], ?_,d⟩;refine⟨a.1, ?_⟩
 rcases a.2 with hn|⟨g,cap,cur,rfl,hg,hgg,rest⟩
 ·exact .inl hn
 ·refine .inr ⟨g,cap,cur,rfl,hg, ?_,rest⟩
  rw[hb.block g (Array.getElem?_eq_some_iff.1 hgg).1];exact hgg
theorem gU.below {w a:World} {b:Nat} {l:List UInt8} (h:gU w b l) (hb:Below w.heap.size w a):gU a b l:=
 h.imp (fun h=>mV h hb) (fun h=>mV h hb)
theorem gU.lt {w:World} {b:Nat} {l:List UInt8} (h:gU w b l):b<w.heap.size:=by
 rcases h with h|h<;>exact h.lt
theorem byteCells_append (a b:List UInt8):Lib.byteCells (a++b)=Lib.byteCells a++Lib.byteCells b:=by simp[Lib.byteCells]
theorem iG (b:Nat) (l:List UInt8) (s:ByteArray) (w:World) (h:gU w b l) (hl:l.length+s.size≤140737488355328):
  Calls prog 71 #[.pointer (some ⟨b,0,none⟩), .string s] w fun e w'=>e= .returned (.tuple #[.int .i64 s.size, .nilIface])∧gU w' b (l++s.data.toList)∧Below b w w':=by
 refine(Bi b b _ s w h (by rw[Lib.byteCells_length];exact hl) (Nat.le_of_lt h.lt)).mono ?_
 rintro e w' ⟨rfl,hb,a⟩;refine⟨rfl, .inr ?_,a⟩;rw[byteCells_append];exact hb
theorem pr (b:Nat) (l:List UInt8) (c:Int) (w:World) (h:gU w b l) (d:0≤c) (f:c<256) (hl:l.length+1≤140737488355328):
  Calls prog 249 #[.pointer (some ⟨b,0,none⟩), .int .u8 c] w fun e w'=>e= .returned .nilIface∧gU w' b (l++[UInt8.ofNat c.toNat])∧Below b w w':=by
 refine(FD b b _ c w h (by rw[Lib.byteCells_length];exact hl) (Nat.le_of_lt h.lt)).mono ?_
 rintro e w' ⟨rfl,hb,a⟩;refine⟨rfl, .inr ?_,a⟩
 have e:Lib.byteCells (l++[UInt8.ofNat c.toNat])=Lib.byteCells l++[.int .u8 c]:=by
  rw[byteCells_append]
  congr 1
  simp[Lib.byteCells];omega
 rw[e];exact hb
theorem oJ (b:Nat) (l:List UInt8) (w:World) (h:gU w b l):
  Calls prog 73 #[.pointer (some ⟨b,0,none⟩)] w fun e w'=>∃r,e= .returned (.string r)∧ah r l∧Below b w w':=by
 refine(Tryz.Builder_String_any b b l w h (Nat.le_of_lt h.lt)).mono ?_
 rintro e w' ⟨rfl,hb⟩;exact⟨_,rfl,ah.mk _,hb⟩
end Go.Proofs.YtadooplpfhdhcaaGreat
