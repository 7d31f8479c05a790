/- A volume, in plain words (chapters 24 and 26): the log and the versions behind a write, a record, a purge. No program in sight. A volume is formatted (chapter 26): Mount, Format. Looks at a volume that is none, and at a disk that is none (chapter 26). -/
import Derived.Test.YtadooplpfhdhcaaGreatQ30
import Derived.Test.YtadooplpfhdhcaaGreatQ27
import Derived.Test.YtadooplpfhdhcaaGreatQ14
import Derived.Test.YtadooplpfhdhcaaGreatQ13
import Derived.Test.YtadooplpfhdhcaaGreatQ22
import Derived.Test.YtadooplpfhdhcaaGreatQ7
import Derived.Test.YtadooplpfhdhcaaGreatQ29
import Derived.Test.YtadooplpfhdhcaaGreatQ23
import Derived.Test.YtadooplpfhdhcaaGreatQ5
import Derived.Lib.SmallJoins
import Derived.Deep.Fields
import Derived.Test.YtadooplpfhdhcaaGreatQ24
set_option linter.unusedSimpArgs false
set_option linter.unusedVariables false
set_option maxRecDepth 100000
set_option maxHeartbeats 4000000
namespace Go.Proofs.YtadooplpfhdhcaaGreat
open Go Go.RowKit Go.Maps Go.WideMaps
open Go.Lib (hid)
open Go.Proofs.Tryz
theorem zK {α:Type} (p:α→Bool):∀(l:List α) (t:Nat) (x:α),l[t]?=some x→t<(l.takeWhile p).length→p x=true
 |[],t,x,h,_=>by simp at h
 |a::r,t,x,h,ht=>by
  rw[List.takeWhile_cons]at ht
  by_cases hp:p a=true
  ·rw[if_pos hp]at ht
   cases t with
   |zero=>simp at h;subst h;exact hp
   |succ t=>exact zK p r t x (by simpa using h) (by simpa using ht)
  ·rw[if_neg hp]at ht
   simp at ht
theorem zL {α:Type} (p:α→Bool):∀(l:List α) (x:α),l[(l.takeWhile p).length]?=some x→p x=false
 |[],x,h=>by simp at h
 |a::r,x,h=>by
  rw[List.takeWhile_cons]at h
  by_cases hp:p a=true
  ·rw[if_pos hp]at h
   exact zL p r x (by simpa using h)
  ·rw[if_neg hp]at h
   simp at h;subst h
   simpa using hp
theorem qt {a b c:ag} (h:gR a b) (k:gR b c):gR a c:=by unfold gR at h k ⊢;omega
theorem J3 {a b:ag} (h:¬gR a b) (c:a≠b):gR b a:=by
 have:¬(a.lba=b.lba∧a.epoch=b.epoch∧a.slot=b.slot):=fun⟨h1,h2,h3⟩=>c (by cases a;cases b;simp only at h1 h2 h3;subst h1 h2 h3;rfl)
 unfold gR at h ⊢;omega
theorem Gg {l:List ag} {v:ag} (h:l.Pairwise gR) (g:∀x∈l,x≠v):(eC l v).Pairwise gR:=by
 have s:∀(t:Nat) (x:ag),l[t]?=some x→t<jh v l→gR x v:=fun t x c r=>by
  have:=zK _ l t x c r
  simp only[decide_eq_true_eq]at this;exact oy.1 this
 have p:∀(t:Nat) (x:ag),l[t]?=some x→jh v l≤t→gR v x:=fun t x c r=>by
  have k:=(List.getElem?_eq_some_iff.1 c).1;have hp:l[jh v l]?=some l[jh v l]:=List.getElem?_eq_getElem (by omega)
  have e:¬gR l[jh v l] v:=fun hl=>by
   have:=zL _ l _ hp
   simp only[decide_eq_false_iff_not]at this;exact this (oy.2 hl)
  have n:gR v l[jh v l]:=J3 e (g _ (List.getElem_mem _))
  by_cases w:jh v l=t
  ·subst w
   rw[hp]at c
   injection c with c
   rw[←c];exact n
  ·have o:=List.pairwise_iff_getElem.1 h (jh v l) t (by omega) k (by omega)
   obtain⟨_,m⟩:=List.getElem?_eq_some_iff.1 c;rw[m]at o;exact qt n o
 unfold eC;rw[List.pairwise_append];refine⟨h.sublist (List.take_sublist _ _), ?_, ?_⟩
 ·rw[List.pairwise_cons]
  refine⟨fun x c=> ?_,h.sublist (List.drop_sublist _ _)⟩;obtain⟨i,d⟩:=List.mem_iff_getElem?.1 c;rw[List.getElem?_drop]at d;exact p _ x d (by omega)
 ·intro a u b hb
  obtain⟨i,d⟩:=List.mem_iff_getElem?.1 u;rw[List.getElem?_take]at d
  split at d
  ·rename_i f
   have e:=s i a d f
   rcases List.mem_cons.1 hb with rfl|hb
   ·exact e
   ·obtain⟨j,q⟩:=List.mem_iff_getElem?.1 hb
    rw[List.getElem?_drop]at q;exact qt e (p _ b q (by omega))
  ·cases d
theorem zM {l:List ag} {v x:ag}:x∈eC l v↔x=v∨x∈l:=by
 unfold eC;rw[List.mem_append,List.mem_cons]
 constructor
 ·rintro(h|h|h)
  ·exact .inr (List.mem_of_mem_take h)
  ·exact .inl h
  ·exact .inr (List.mem_of_mem_drop h)
 ·rintro(h|h)
  ·exact .inr (.inl h)
  ·rw[←List.take_append_drop (jh v l) l]at h
   rcases List.mem_append.1 h with h|h
   ·exact .inl h
   ·exact .inr (.inr h)
theorem bY.pair {log:List LE} {key:ByteArray} {b:av} {a:List ag} (h:bY log key b a):a.Pairwise gR:=
 List.pairwise_iff_getElem.2 (fun i j d e c=>h.sort i j _ _ (List.getElem?_eq_getElem d) (List.getElem?_eq_getElem e) c)
theorem bY.asks {log:List LE} {key:ByteArray} {b:av} {e:List ag} (h:bY log key b e) (lba ep:Int):
  (∀(i j:Nat) (a d:ag),e[i]?=some a→e[j]?=some d→i≤j→cL d ⟨lba,ep,(log.length:Int)⟩<0→cL a ⟨lba,ep,(log.length:Int)⟩<0)∧∀(t:Nat) (x:ag),e[t]?=some x→cL x ⟨lba,ep,(log.length:Int)⟩≠0:=by
 refine⟨fun i j a d n hd o g=> ?_,fun t x r f=> ?_⟩
 ·by_cases m:i=j
  ·subst m;rw[n]at hd;injection hd with hd;subst hd;exact g
  ·exact oy.2 (qt (h.sort i j a d n hd (by omega)) (oy.1 g))
 ·obtain⟨k,y,c,m,p⟩:=h.vin t x r
  have q:=(List.getElem?_eq_some_iff.1 p).1;rw[m]at f;unfold cL at f;simp only at f
  split at f
  ·rename_i l;exact l f
  ·split at f
   ·rename_i l;exact l f
   ·have:=pJ.1 f
    omega
theorem bY.write {log:List LE} {key:ByteArray} {b:av} {m:List ag} (h:bY log key b m) {x:AV} {c:ak} (H:vt key b log.length x c) (G:∀(k:Nat) y d,log[k]?=some (.cell y d)→y.epoch≤x.epoch):
  bY (log++[.cell x c]) key b (eC m ⟨x.lba,x.epoch,(log.length:Int)⟩):=by
 have l:∀(k:Nat) y d,(log++[LE.cell x c])[k]?=some (LE.cell y d)→(k<log.length∧log[k]?=some (LE.cell y d))∨(k=log.length∧y=x∧d=c):=by
  intro k y d f
  by_cases p:k<log.length
  ·rw[List.getElem?_append_left p]at f
   exact .inl ⟨p,f⟩
  ·have B:k=log.length:=by have:=(List.getElem?_eq_some_iff.1 f).1;simp at this;omega
   subst B;rw[List.getElem?_append_right (Nat.le_refl _)]at f;simp at f;exact .inr ⟨rfl,f.1.symm,f.2.symm⟩
 have r:∀(k:Nat) e,log[k]?=some e→(log++[LE.cell x c])[k]?=some e:=fun k e f=>by
  rw[List.getElem?_append_left (List.getElem?_eq_some_iff.1 f).1];exact f
 have q:(log++[LE.cell x c])[log.length]?=some (LE.cell x c):=by rw[List.getElem?_append_right (Nat.le_refl _)];simp
 have o:∀z∈m,z≠(⟨x.lba,x.epoch,(log.length:Int)⟩:ag):=fun z D u=>by
  obtain⟨t,C⟩:=List.mem_iff_getElem?.1 D;obtain⟨k,y,d,hy,f⟩:=h.vin t z C;have p:=(List.getElem?_eq_some_iff.1 f).1;rw[hy]at u
  injection u with _ _ E
  omega
 have hp:=Gg h.pair o;refine⟨fun k y d f=> ?_,fun j k y d z e A v f=> ?_,fun t z D=> ?_,fun k y d f=> ?_,fun i j a d F hd w=> ?_⟩
 ·rcases l k y d f with⟨_,g⟩|⟨rfl,rfl,rfl⟩
  ·exact h.fit k y d g
  ·exact H
 ·rcases l k z e f with⟨h0,g⟩|⟨rfl,rfl,rfl⟩
  ·rcases l j y d v with⟨_,n⟩|⟨n,_,_⟩
   ·exact h.mono j k y d z e A n g
   ·omega
  ·rcases l j y d v with⟨_,n⟩|⟨_,n,_⟩
   ·exact G j y d n
   ·rw[n];exact Int.le_refl _
 ·rcases zM.1 (List.mem_iff_getElem?.2 ⟨t,D⟩)with g|g
  ·exact⟨log.length,x,c,g,q⟩
  ·obtain⟨s,J⟩:=List.mem_iff_getElem?.1 g
   obtain⟨k,y,d,n,E⟩:=h.vin s z J;exact⟨k,y,d,n,r k _ E⟩
 ·refine List.mem_iff_getElem?.1 (zM.2 ?_)
  rcases l k y d f with⟨_,g⟩|⟨rfl,rfl,rfl⟩
  ·obtain⟨t,C⟩:=h.vall k y d g
   exact .inr (List.mem_iff_getElem?.2 ⟨t,C⟩)
  ·exact .inl rfl
 ·obtain⟨I,g⟩:=List.getElem?_eq_some_iff.1 F
  obtain⟨v,n⟩:=List.getElem?_eq_some_iff.1 hd
  have:=List.pairwise_iff_getElem.1 hp i j I v w
  rw[g,n]at this;exact this
theorem bY.record {log:List LE} {key:ByteArray} {b b':av} {vers:List ag} (h:bY log key b vers) (hb:b'.gone=b.gone) (s:ByteArray):bY (log++[.held s]) key b' vers:=by
 have c:∀(k:Nat) y d,(log++[LE.held s])[k]?=some (LE.cell y d)→log[k]?=some (LE.cell y d):=by
  intro k y d a
  by_cases i:k<log.length
  ·rw[List.getElem?_append_left i]at a
   exact a
  ·have g:k=log.length:=by have:=(List.getElem?_eq_some_iff.1 a).1;simp at this;omega
   subst g;rw[List.getElem?_append_right (Nat.le_refl _)]at a;simp at a
 exact⟨fun k y d a=>(by obtain⟨m,n,o,p,q⟩:=h.fit k y d (c k y d a);exact⟨m,n,o,by rw[hb];exact p,q⟩),fun j k y d z e f u a=>h.mono j k y d z e f (c j y d u) (c k z e a),
  fun t z v=>(by obtain⟨k,y,d,r,l⟩:=h.vin t z v;exact⟨k,y,d,r,by rw[List.getElem?_append_left (List.getElem?_eq_some_iff.1 l).1];exact l⟩),fun k y d a=>h.vall k y d (c k y d a),h.sort⟩
def cZ (ep:Int):LE→LE
 | .cell x c=>if c.epoch=ep then .cell x (gd c)else .cell x c
 | .held s=> .held s
theorem Gh (ep:Int) (e:LE):(cZ ep e).ent=qX ep e.ent:=by
 cases e with
 |held s=>rfl
 |cell x c=>
  by_cases a:c.epoch=ep
  ·rw[show cZ ep (.cell x c)= .cell x (gd c)from if_pos a]
   exact(if_pos a).symm
  ·rw[show cZ ep (.cell x c)= .cell x c from if_neg a]
   exact(if_neg a).symm
theorem Gi (ep:Int) (e:LE):(cZ ep e).ver=e.ver:=by
 cases e with
 |held s=>rfl
 |cell x c=>
  by_cases a:c.epoch=ep
  ·rw[show cZ ep (.cell x c)= .cell x (gd c)from if_pos a]
   rfl
  ·rw[show cZ ep (.cell x c)= .cell x c from if_neg a]
theorem bY.purge {log:List LE} {key:ByteArray} {b b':av} {vers:List ag} (h:bY log key b vers) (ep:Int) (hb:∀e,b'.gone e=if e=ep then true else b.gone e):bY (log.map (cZ ep)) key b' vers:=by
 have l:∀(k:Nat) y d,(log.map (cZ ep))[k]?=some (LE.cell y d)→∃c,log[k]?=some (LE.cell y c)∧d=if c.epoch=ep then gd c else c:=by
  intro k y d i;rw[List.getElem?_map,Option.map_eq_some_iff]at i;obtain⟨e,f,a⟩:=i
  cases e with
  |held s=>cases a
  |cell x c=>
   unfold cZ at a;simp only at a
   split at a
   ·rename_i g;injection a with h4 h5;subst h4;exact⟨c,f,by rw[if_pos g,h5]⟩
   ·rename_i g;injection a with h4 h5;subst h4;exact⟨c,f,by rw[if_neg g,h5]⟩
 have o:∀(k:Nat) y c,log[k]?=some (LE.cell y c)→∃d,(log.map (cZ ep))[k]?=some (LE.cell y d):=by
  intro k y c i;rw[List.getElem?_map,i]
  show ∃d,some (cZ ep (.cell y c))= _
  unfold cZ;simp only
  split
  ·exact⟨_,rfl⟩
  ·exact⟨_,rfl⟩
 refine⟨fun k y d i=> ?_,fun j k y d z e n A i=> ?_,fun t z B=> ?_,fun k y d i=> ?_,h.sort⟩
 ·obtain⟨c,f,a⟩:=l k y d i
  obtain⟨p,m,q,u,v⟩:=h.fit k y c f
  by_cases g:c.epoch=ep
  ·rw[if_pos g]at a
   subst a;exact⟨p,m,q,by rw[hb,if_pos (by rw[←m];exact g)];rfl,fun w=>by cases w⟩
  ·rw[if_neg g]at a
   subst a;exact⟨p,m,q,by rw[hb,if_neg (by rw[←m];exact g)];exact u,v⟩
 ·obtain⟨c,f,_⟩:=l j y d A
  obtain⟨r,a,_⟩:=l k z e i;exact h.mono j k y c z r n f a
 ·obtain⟨k,y,c,f,a⟩:=h.vin t z B
  obtain⟨d,g⟩:=o k y c a;exact⟨k,y,d,f,g⟩
 ·obtain⟨c,f,_⟩:=l k y d i
  exact h.vall k y c f
theorem BX (d n ep:Nat) (b:Int) (v:Value) (key a kb q:ByteArray) (w:World) (s:cA ⟨(n:Int),b,(ep:Int)⟩) (t:key.size=32) (x:ah kb (ew (ep:Int) key.data.toList)) (y:ah q (cG ⟨1,0,ep,0,⟨(n:Int),b,(ep:Int)⟩⟩))
  (c:a.size=16) (h:aC w d (bz n v (2+ep % 2) kb q)):
  Calls prog 13 #[.pointer (some ⟨d,0,none⟩), .string a] w fun e w'=>(∃f k p r g j i l m o,e= .returned (.tuple #[.pointer (some ⟨f,0,none⟩), .int .i64 0])∧fJ w' w.heap.size f k p d r g j i l m o none key a 1 0 n b ep ep (bz n v (2+ep % 2) kb q))∧Below w.heap.size w w':=by
 have A:=hid (Dk d n ep none b v key a kb q w s t x y c h);clear h c y x t s;go_enter func13,ntmps13;go_wp2_with fail;refine A.mono ?_;rintro e C ⟨⟨f,k,p,r,g,j,i,l,m,o,rfl,u⟩,hb⟩;have B:=hid u;have z:=hid hb;clear u hb;go_wp2_with fail;go_ret2;exact⟨⟨f,k,p,r,g,j,i,l,m,o,rfl,B.out⟩,z.out⟩
theorem qu (d n ep:Nat) (a:Int) (v:Value) (root:ByteArray) (w:World) (G:cA ⟨(n:Int),a,(ep:Int)⟩) (hr:root.size=32) (h:aC w d (bj n v)):
  Calls prog 8 #[.pointer (some ⟨d,0,none⟩),(⟨(n:Int),a,(ep:Int)⟩:aH).v, .string root] w fun e K=>∃(J jb sb xb bb cb c2 m1 m2 m3:Nat) (key b kb q:ByteArray),e= .returned (.tuple #[.pointer (some ⟨J,0,none⟩), .int .i64 0])∧
   ah b (qT root.data.toList [100,97,116,97] 16)∧ah key (iJ root.data.toList [115,101,97,108] [ep])∧ah kb (ew (ep:Int) key.data.toList)∧ah q (cG ⟨1,0,ep,0,⟨(n:Int),a,(ep:Int)⟩⟩)∧
   bg w K d (bj n v) (bz n v (2+ep % 2) kb q)∧fJ K w.heap.size J jb sb d xb bb cb c2 m1 m2 m3 none key b 1 0 n a ep ep (bz n v (2+ep % 2) kb q):=by
 obtain⟨g,B⟩:∃g,Hid (g=(⟨(n:Int),a,(ep:Int)⟩:aH)):=⟨_,rfl⟩;have W:=hid (show g.first=(ep:Int) by rw[B.out]);have S:=hid h;have V:=hid G;have T:=hid (show(ep:Int)≤4294967295 from by have:=G.f1;simp only at this;omega);have HR:=hid hr
 have F:∀(I:World) (key:ByteArray),key.size=32→aC I d (bj n v)→Calls prog 31 #[.pointer (some ⟨d,0,none⟩), .agg g.cells.toArray, .string key] I fun e K=>e= .returned (.int .i64 0)∧∃kb q,ah kb (ew (ep:Int) key.data.toList)∧ah q (cG ⟨1,0,ep,0,(⟨(n:Int),a,(ep:Int)⟩:aH)⟩)∧bg I K d (bj n v) (bz n v (2+ep % 2) kb q):=by
  intro I key hk hx;rw[B.out];exact AL d n ep a v key I hx G hk
 have U:=hid F;rw[←B.out];have X:=hid (show cA g from by rw[B.out];exact G);clear h G hr F;go_enter func8,ntmps8
 go_wp2_with (first
  |((with_reducible refine ae 23 (.tmp 1) g.cells (some 4) ?hgd ?ho ?hd ?hx ?_);(case hgd|ho|hd|hx=>rfl);(intro Z wa l4 B4 e4 z4))
  |fail)
 have c:=hid (e4.mono l4);have u:=hid B4;have bm:=hid l4;have O:=hid (S.below c.out);clear B4 e4 z4 l4
 refine(mI root _).mono ?_
 rintro e wb ⟨E,f⟩;obtain⟨b,rfl,td⟩:=E.yes HR.out;have y:=hid td;have r:=hid (u.below f u.lt);have l:=hid (c.trans (f.mono c.size));have P:=hid (O.below f);clear f td E
 go_wp2_with (first
  |((with_reducible refine aj 23 (.tmp 4) Z g.cells 23 _ r.out underlying23 rfl bG ?hgd ?ho ?hx ?_);(case hgd|ho|hx=>rfl))
  |fail)
 refine(fj g _ X.out).mono ?_
 rintro e wc ⟨rfl,j⟩;have s:=hid (r.below j r.lt);have m:=hid (l.trans (j.mono l.size));have Q:=hid (P.below j);have q2:wc.cell? ⟨Z,2,none⟩=some (.int .i64 (ep:Int)):=by rw[←W.out];exact s.cell (i:=2) rfl
 clear j;go_wp2_with fail
 refine(yu root (ep:Int) _).mono ?_
 rintro e wd ⟨E,k⟩;obtain⟨key,rfl,tk⟩:=E.yes ⟨by omega,T.out,HR.out⟩;have z:=hid (show ah key (iJ root.data.toList [115,101,97,108] [ep])from tk.cast (by rw[Int.toNat_natCast]));have L:=hid (s.below k s.lt);have o:=hid (m.trans (k.mono m.size));have R:=hid (Q.below k);clear k tk E q2
 go_wp2_with (first
  |((with_reducible refine aj 23 (.tmp 4) Z g.cells 23 _ L.out underlying23 rfl bG ?hgd ?ho ?hx ?_);(case hgd|ho|hx=>rfl))
  |fail)
 have x:=hid (show key.size=32 from by rw[z.size,gK]);have N:=hid (show b.size=16 from by rw[y.size,mw])
 refine(U.out _ key x.out R.out).mono ?_
 rintro e we ⟨rfl,kb,q,H,tq,D⟩;have p:=hid H;have A:=hid tq;have t:=hid D;clear H tq D;go_wp2_with fail
 refine(BX d n ep a v key b kb q _ V.out x.out p.out A.out N.out t.at').mono ?_
 rintro e wf ⟨⟨J,jb,sb,xb,bb,cb,c2,m1,m2,m3,rfl,hv⟩,C⟩;have HV:=hid hv;have M:=hid (bg.ahead o.out (t.below C));have Y:=hid (show w.heap.size≤we.heap.size from Nat.le_trans o.size t.turned.size);clear hv C;go_wp2_with fail;go_ret2;exact⟨J,jb,sb,xb,bb,cb,c2,m1,m2,m3,key,b,kb,q,rfl,y.out,z.out,p.out,(by rw[B.out];exact A.out),M.out,HV.lower Y.out⟩
theorem wS:prog.built 84 []=some bJ.zero.cells.toArray:=by kernel_rfl
def m7:List Value:=[.int .i64 0, .int .i64 0, .int .i64 0, .int .i64 0, .int .i64 0, .int .i64 0]
theorem wT (w:World):(zeroValue 38).run prog w= .ok (.agg m7.toArray) w:=by kernel_rfl
theorem wU:(prog.info? 38).map (·.size)=some m7.length:=by kernel_rfl
def cF (e:Int):List Value:=[.int .i64 e, .string ⟨#[]⟩]++m7
theorem eI (w:World):(zeroValue 40).run prog w= .ok (.agg (cF 0).toArray) w:=by kernel_rfl
theorem cR {e:Int}:(prog.info? 40).map (·.size)=some (cF e).length:=by kernel_rfl
theorem jd (e:Int):∀v∈cF e,v.oneCell'=true:=by intro v a;simp[cF,m7]at a;rcases a with rfl|rfl|rfl<;>rfl
theorem fP (e:Int):prog.built 40 [(0, .int .i64 e)]=some (cF e).toArray:=by kernel_rfl
theorem qw:∀(k:Nat) (l:List ByteArray),(∀x∈l,x.size=32)→∀y∈fF k l,∀x∈y,x.size=32
 |0,l,h=>by intro y hy;simp[fF]at hy;subst hy;exact h
 |k+1,l,h=>by
  intro y hy;unfold fF at hy
  split at hy
  ·simp at hy;subst hy;exact h
  ·rcases List.mem_cons.1 hy with rfl|hy
   ·exact h
   ·exact qw k _ (rL l h) y hy
theorem py:∀(L:List (List ByteArray)) (s:ByteArray),s.size=32→(∀y∈L,∀x∈y,x.size=32)→(L.foldl ky s).size=32
 |[],s,hs,_=>hs
 |y::L,s,hs,h=>by
  rw[List.foldl_cons];refine py L _ ?_ (fun z b=>h z (List.mem_cons_of_mem _ b));unfold ky
  split
  ·cases y with
   |nil=>exact hs
   |cons a r=>exact h (a::r) (by simp) a (by simp)
  ·exact hs
theorem zN (l:List bK):(lK l).length=32:=by
 unfold lK yB;refine py _ _ ?_ ?_
 ·show(eh []).toArray.size=32
  simpa using cT _
 ·refine qw _ _ (fun x a=> ?_)
  unfold eu at a;obtain⟨y,_,rfl⟩:=List.mem_map.1 a
  show(lG y).toArray.size=32
  simpa using j4 y
theorem qy (ep:Int) (cs:List ak):∀k,k≤cs.length→fL (cp ep (cs.take k))
 |0,_=>fL.none
 |k+1,h=>by
  have hc:cs[k]?=some cs[k]:=List.getElem?_eq_getElem (by omega);rw[fO hc]
  exact(qy ep cs k (by omega)).put _ _ (jZ _ _ _)
def re (ep:Int) (cs:List ak):List UInt8:=lK (bu (cp ep cs) 4096)
structure Gj (v:ai) (ep:Int) (cs:List ak):Prop where
 len:cs.length=(bH v.vers ep).length
 at':∀(j:Nat) (x:ag) (c:ak),(bH v.vers ep)[j]?=some x→cs[j]?=some c→∃k:Nat,x.slot=(k:Int)∧(k:Int)<v.used∧j9 v k c
 one:∀(j k:Nat) (a b:ak),cs[j]?=some a→cs[k]?=some b→j<k→a.lba≠b.lba
theorem IJ (i:ap) (v:ai) (cs:List ak) (q:bp v) (m:0≤v.epoch) (n:v.epoch≤4294967295) (j:v.vers.length≤4096) (hc:Gj v v.epoch cs):DF i v (cs.length:Int) (re v.epoch cs) where
 n0:=by omega
 n1:=by have:=ql v.vers v.epoch;have:=hc.len;omega
 len:=zN _
 ex:=by
  have d:cs.take cs.length=cs:=List.take_of_length_le (Nat.le_refl _);refine⟨fun k a=>∃B,dK k a B cs.length v.epoch (dV v.epoch cs),fun f p=> ?_,fun f a h=> ?_,fun f a h=> ?_⟩
  ·refine(xR i v v.epoch _ cs f p q m n rfl j hc.len hc.at').mono ?_
   rintro e k ⟨⟨a,B,g,c⟩,hb⟩;exact⟨⟨a,g,B,c⟩,hb⟩
  ·obtain⟨B,c⟩:=h
   refine(ju a B cs.length v.epoch _ f c).mono ?_
   rintro e k ⟨g,o⟩;have b:=ui v.epoch cs hc.one cs.length (Nat.le_refl _);rw[d]at b;rw[b]at g;exact⟨g,o⟩
  ·obtain⟨B,c⟩:=h
   have b:=(mB v.epoch cs cs.length (Nat.le_refl _)).1;have l:=qy v.epoch cs cs.length (Nat.le_refl _);rw[d]at b l;exact pu a B cs.length v.epoch _ _ f c b l
theorem xY (i:ap) (v:ai) (w:World) (h:al w i v) (B:bp v) (d:4294967295≤v.epoch∨¬v.used<v.last.geo.blocks-4):
  Calls prog 25 #[.pointer (some ⟨i.vb,0,none⟩)] w fun e w'=>e= .returned (.tuple #[bJ.zero.v, .int .i64 6])∧Below w.heap.size w w':=by
 have A:=hid h;have t:=hid B;obtain⟨ve,j⟩:∃ve,v.epoch=ve:=⟨_,rfl⟩;rw[j]at d;have m:=hid j;clear h B j
 by_cases D:4294967295≤ve
 ·clear d
  go_enter func25,ntmps25
  go_wp2_with (first
    |((with_reducible refine ab 84 _ jK (some 2) ?hgd ?ho ?hd ?_);(case hgd|ho|hd=>rfl);(intro u o k l n z))
    |fail)
  have c:=hid l;have f:=hid k;have a:=hid (n.mono k);have b:=hid (A.below a.out);clear l n z k
  refine(aP i v _ b.out).mono ?_
  rintro e w' ⟨rfl,rfl⟩;have x:o.cell? ⟨i.vb,5,none⟩=some (.pointer (some ⟨i.bb,0,none⟩)):=b.vol.cell (i:=5) rfl;go_wp2_with fail
  refine(aR i.bb i.c2 v.first ve i.m1 i.m2 i.m3 _ (by rw[←m.out];exact b.book)).mono ?_
  rintro e w' ⟨rfl,rfl⟩;clear x
  go_wp2_with (first
    |((with_reducible refine au 84 ?parts bJ.zero.cells ?hg ?ho ?hf ?_);(case hg|ho=>rfl);(case hf=>exact wS))
    |((with_reducible refine aa 84 (.tmp 2) (.tmp 34) u bJ.zero.cells bJ.zero.cells 84 c.out rfl dE (bJ.cells_one _) ?hgd ?ho ?hx ?hy ?_);(case hgd|ho|hx|hy=>rfl);(intro F p y))
    |fail)
  (try simp only[Exit.inBlock,Exit.then])
  refine bodyPost_ret (aU rfl _ _ p.range rfl underlying84 rfl dE) rfl ⟨rfl,y.below a.out f.out⟩
 ·have s:=hid (show¬v.used<v.last.geo.blocks-4 from d.resolve_left D)
  clear d;go_enter func25,ntmps25
  go_wp2_with (first
    |((with_reducible refine ab 84 _ jK (some 2) ?hgd ?ho ?hd ?_);(case hgd|ho|hd=>rfl);(intro u o k l n z))
    |fail)
  have c:=hid l;have f:=hid k;have a:=hid (n.mono k);have b:=hid (A.below a.out);clear l n z k
  refine(aP i v _ b.out).mono ?_
  rintro e w' ⟨rfl,rfl⟩;have x:o.cell? ⟨i.vb,5,none⟩=some (.pointer (some ⟨i.bb,0,none⟩)):=b.vol.cell (i:=5) rfl;go_wp2_with fail
  refine(aR i.bb i.c2 v.first ve i.m1 i.m2 i.m3 _ (by rw[←m.out];exact b.book)).mono ?_
  rintro e w' ⟨rfl,rfl⟩;clear x;have C:o.cell? ⟨i.vb,0,none⟩=some (.pointer (some ⟨i.jb,0,none⟩)):=b.vol.cell (i:=0) rfl;have E:o.cell? ⟨i.jb,0,none⟩=some (.pointer (some ⟨i.sb,0,none⟩)):=b.jour.cell (i:=0) rfl;go_wp2_with fail
  refine(kr i.sb v.last.geo v.used _ b.space t.sup.geo).mono ?_
  rintro e G ⟨rfl,g⟩;rw[decide_eq_false (show¬v.used<v.last.geo.blocks-4 by have:=s.out;omega)];have q:=hid (c.below g c.lt);have r:=hid (a.trans (g.mono a.size));clear g C E
  go_wp2_with (first
    |((with_reducible refine au 84 ?parts bJ.zero.cells ?hg ?ho ?hf ?_);(case hg|ho=>rfl);(case hf=>exact wS))
    |((with_reducible refine aa 84 (.tmp 2) (.tmp 34) u bJ.zero.cells bJ.zero.cells 84 q.out rfl dE (bJ.cells_one _) ?hgd ?ho ?hx ?hy ?_);(case hgd|ho|hx|hy=>rfl);(intro F p y))
    |fail)
  (try simp only[Exit.inBlock,Exit.then])
  refine bodyPost_ret (aU rfl _ _ p.range rfl underlying84 rfl dE) rfl ⟨rfl,y.below r.out f.out⟩
def lu (root:List UInt8) (f:Nat) (l:List Rec):Nat→List UInt8
 |0=>List.replicate 32 0
 |k+1=>match l[k]? with
  |some r=>jj (C3 root f (r.epoch.toNat-f)) (lu root f l k) k r
  |none=>[]
theorem oj {root:List UInt8} {f k:Nat} {l:List Rec} {r:Rec} (h:l[k]?=some r):lu root f l (k+1)=jj (C3 root f (r.epoch.toNat-f)) (lu root f l k) k r:=by
 show(match l[k]? with|some r=>_|none=>_)= _
 rw[h]
theorem IK {root:List UInt8} {f:Nat} {l:List Rec}:∀{k:Nat},k≤l.length→(lu root f l k).length=32:=by
 intro k b
 cases k with
 |zero=>simp[lu]
 |succ k=>
  obtain⟨r,a⟩:∃r,l[k]?=some r:=⟨_,List.getElem?_eq_getElem (by omega)⟩;rw[oj a,di]
def closes (l:List Rec):Nat:=(l.filter (fun r=>decide (r.kind=1))).length
theorem rO (r:Rec) (l:List Rec):closes (r::l)=(if r.kind=1 then 1 else 0)+closes l:=by
 unfold closes
 by_cases h:r.kind=1
 ·simp[List.filter_cons,h,Nat.add_comm]
 ·simp[List.filter_cons,h]
structure Gk (first:Int) (l:List Rec):Prop where
 each:∀(k:Nat) (r:Rec),l[k]?=some r→aI r=true∧r.epoch=first+(closes (l.take k):Int)
theorem jx (ep now:Int) (i:Nat) (r:Rec) (l:List Rec):dD ep now i (r::l)=if aI r=true∧r.epoch=ep∧now≤r.time then dD (if r.kind=1 then ep+1 else ep) r.time (i+1) l else(ep,i,16):=rfl
theorem wV (l:List Rec):∀(ep now:Int) (i:Nat),(dD ep now i l).2.2=0→(dD ep now i l).1=ep+(closes l:Int)∧(dD ep now i l).2.1=i+l.length∧Gk ep l:=by
 induction l with
 |nil=>intro ep now i _;exact⟨by simp[dD,closes],rfl,⟨fun k r h=>by simp at h⟩⟩
 |cons r l ih=>
  intro ep now i h;rw[jx]at h ⊢
  by_cases hc:aI r=true∧r.epoch=ep∧now≤r.time
  ·rw[if_pos hc]at h ⊢
   obtain⟨e,f,g⟩:=ih _ _ _ h;refine⟨?_,by rw[f,List.length_cons];omega,⟨?_⟩⟩
   ·rw[e,rO]
    by_cases a:r.kind=1<;>simp[a]<;>omega
   ·intro k x b
    cases k with
    |zero=>
     simp at b;subst b;exact⟨hc.1,by simp[closes,hc.2.1]⟩
    |succ k=>
     obtain⟨c,d⟩:=g.each k x (by simpa using b);refine⟨c, ?_⟩;rw[d,List.take_succ_cons,rO]
     by_cases a:r.kind=1<;>simp[a]<;>omega
  ·rw[if_neg hc]at h
   simp at h
theorem BY (l:List Rec) (k:Nat):closes (l.take k)≤closes l:=by
 have h:=List.take_append_drop k l
 have:closes l=closes (l.take k)+closes (l.drop k):=by
  conv=>lhs;rw[←h]
  unfold closes;rw[List.filter_append,List.length_append]
 omega
theorem sG (l:List Rec) {j k:Nat} (h:j≤k):closes (l.take j)≤closes (l.take k):=by
 have:=BY (l.take k) j
 rw[List.take_take,Nat.min_eq_left h]at this;exact this
def CX (first:Int) (l:List Rec):Bool:=match l.getLast? with|some r=>decide (4096<r.epoch-first)|none=>false
structure Gl (root:ByteArray) (first:Int) (l:List Rec):Prop where
 root:root.size=32
 first0:0≤first
 first1:first≤4294967295
 follow:(dD first 0 0 l).2.2=0
 near:CX first l=false
theorem Gl.epochs {root:ByteArray} {first:Int} {l:List Rec} (h:Gl root first l):∀(k:Nat) (r:Rec),l[k]?=some r→aI r=true∧r.epoch=first+(closes (l.take k):Int)∧r.epoch-first≤4096:=by
 intro k r b;obtain⟨_,_,a⟩:=wV l _ _ _ h.follow;obtain⟨e,f⟩:=a.each k r b;refine⟨e,f, ?_⟩;have c:=(List.getElem?_eq_some_iff.1 b).1;obtain⟨z,d⟩:∃z,l[l.length-1]?=some z:=⟨_,List.getElem?_eq_getElem (by omega)⟩;have hl:l.getLast?=some z:=by rw[List.getLast?_eq_getElem?,d]
 have hn:=h.near;unfold CX at hn;rw[hl]at hn;simp at hn;have g:=(a.each _ z d).2
 have:=sG l (show k≤l.length-1 by omega)
 omega
def yE (now:Int):List Rec→Int
 |[]=>now
 |r::l=>yE r.time l
theorem pz (r:Rec):∀(l:List Rec) (ep now:Int) (i:Nat),(dD ep now i l).2.2=0→aI r=true→r.epoch=(dD ep now i l).1→yE now l≤r.time→
  dD ep now i (l++[r])=(if r.kind=1 then(dD ep now i l).1+1 else(dD ep now i l).1,i+l.length+1,0)∧yE now (l++[r])=r.time
 |[],ep,now,i,h,hr,he,ht=>by
  show dD ep now i [r]= _∧_
  rw[jx,if_pos ⟨hr,he,ht⟩];exact⟨rfl,rfl⟩
 |a::l,ep,now,i,h,hr,he,ht=>by
  rw[jx]at h he ⊢;rw[List.cons_append,jx]
  by_cases hc:aI a=true∧a.epoch=ep∧now≤a.time
  ·rw[if_pos hc]at h he ⊢
   rw[if_pos hc];obtain⟨b,c⟩:=pz r l _ _ _ h hr he ht;refine⟨?_,c⟩;rw[b,List.length_cons]
   congr 2
   omega
  ·rw[if_neg hc]at h
   cases h
theorem sH (root:List UInt8) (f:Nat) (l:List Rec) (r:Rec):∀k,k≤l.length→lu root f (l++[r]) k=lu root f l k
 |0,_=>rfl
 |k+1,h=>by
  obtain⟨x,a⟩:∃x,l[k]?=some x:=⟨_,List.getElem?_eq_getElem (by omega)⟩;rw[oj a,oj (by rw[List.getElem?_append_left (by omega)];exact a),sH root f l r k (by omega)]
structure jP (root:ByteArray) (first epoch now:Int) (key:List UInt8) (l:List aD):Prop where
 size:root.size=32
 f0:0≤first
 e0:first≤epoch
 key:key=C3 root.data.toList first.toNat (epoch.toNat-first.toNat)
 follow:dD first 0 0 (l.map aD.r)=(epoch,l.length,0)
 now:yE 0 (l.map aD.r)=now
 tags:∀(k:Nat) (x:aD),l[k]?=some x→x.tag.data.toList=lu root.data.toList first.toNat (l.map aD.r) (k+1)
theorem jP.last {root:ByteArray} {first a now:Int} {key:List UInt8} {l:List aD} (h:jP root first a now key l):(bO l).data.toList=lu root.data.toList first.toNat (l.map aD.r) l.length:=by
 unfold bO
 cases hl:l.getLast? with
 |none=>
  have:l=[]:=List.getLast?_eq_none_iff.1 hl
  subst this;simp[lu]
 |some x=>
  rw[List.getLast?_eq_getElem?]at hl;have hp:=(List.getElem?_eq_some_iff.1 hl).1;simp only;rw[h.tags _ x hl]
  congr 1
  omega
theorem jP.snoc {root:ByteArray} {first epoch now:Int} {key:List UInt8} {l:List aD} (h:jP root first epoch now key l) {r:Rec} {t:ByteArray} (q:aI r=true) (m:r.epoch=epoch) (hn:now≤r.time) (s:ah t (jj key (bO l).data.toList (l.length:Int) r)) {b:Int} {a:List UInt8}
  (n:r.kind=1∧b=epoch+1∧a=iJ key [110,101,120,116] []∨r.kind≠1∧b=epoch∧a=key):jP root first b r.time a (l++[⟨r,t⟩]):=by
 have f:=h.follow;have p:=h.f0;have o:=h.e0;have c:=pz r (l.map aD.r) first 0 0 (by rw[f]) q (by rw[f];exact m) (by rw[h.now];exact hn);rw[f]at c;have j:(l++[(⟨r,t⟩:aD)]).map aD.r=l.map aD.r++[r]:=by simp
 have e:b=if r.kind=1 then epoch+1 else epoch:=by
  rcases n with⟨h1,h2,_⟩|⟨h1,h2,_⟩
  ·rw[if_pos h1,h2]
  ·rw[if_neg h1,h2]
 exact{
  size:=h.size,f0:=h.f0
  e0:=by rw[e];split<;>omega
  key:=by
   rcases n with⟨h1,h2,h3⟩|⟨h1,h2,h3⟩
   ·rw[h3,h2,h.key,show(epoch+1).toNat-first.toNat=(epoch.toNat-first.toNat)+1 by omega]
    rfl
   ·rw[h3,h2,h.key]
  follow:=by
   rw[j,c.1,e,List.length_map,List.length_append];simp
  now:=by rw[j];exact c.2
  tags:=fun k x d=>by
   rw[j]
   by_cases i:k<l.length
   ·rw[List.getElem?_append_left i]at d
    rw[sH _ _ _ _ _ (by rw[List.length_map];omega)];exact h.tags k x d
   ·have g:k=l.length:=by have:=(List.getElem?_eq_some_iff.1 d).1;simp at this;omega
    subst g;rw[List.getElem?_append_right (Nat.le_refl _)]at d;simp at d;subst d;rw[oj (r:=r) (by rw[List.getElem?_append_right (by simp)];simp),sH _ _ _ _ _ (by simp),←h.last,m,←h.key];exact s}
theorem oS {α:Type}:∀(l:List α) (y:α),l.getLast?=some y→l.dropLast++[y]=l
 |[],y,h=>by cases h
 |[a],y,h=>by simp at h;subst h;rfl
 |a::b::r,y,h=>by
  have c:(b::r).getLast?=some y:=by rw[←h];simp[List.getLast?_cons_cons]
  show a::((b::r).dropLast++[y])= _
  rw[oS (b::r) y c]
theorem lQ {c:List ag} (s:∀(i j:Nat) (a d:ag),c[i]?=some a→c[j]?=some d→i<j→gR a d) (ep:Int):∀k,k≤c.length→(bH (c.take k) ep).Pairwise (fun a b=>a.lba<b.lba)∧∀x∈bH (c.take k) ep,x.epoch=ep∧∃t,t<k∧c[t]?=some x
 |0,_=>⟨List.Pairwise.nil,fun x o=>by simp[bH]at o⟩
 |k+1,h=>by
  obtain⟨n,p⟩:=lQ s ep k (by omega);have o:c[k]?=some c[k]:=List.getElem?_eq_getElem (by omega);rw[nF o]
  generalize bH (c.take k) ep=out at n p
  unfold du
  have r:∀a∈out,a.lba≤c[k].lba:=fun a f=>by
   obtain⟨_,t,z,q⟩:=p a f
   have:=s t k _ _ q o z
   unfold gR at this;omega
  have l:∀x∈out,x.epoch=ep∧∃t,t<k+1∧c[t]?=some x:=fun x o=>by
   obtain⟨u,t,B,v⟩:=p x o;exact⟨u,t,by omega,v⟩
  split
  ·rename_i w
   have g:c[k].epoch=ep∧∃t,t<k+1∧c[t]?=some c[k]:=⟨w,k,by omega,o⟩
   split
   ·rename_i y hy
    have m:out.dropLast++[y]=out:=oS out y hy
    split
    ·rename_i hl
     refine⟨?_,fun x e=> ?_⟩
     ·rw[List.pairwise_append]
      refine⟨n.sublist (List.dropLast_sublist _),by simp,fun a f b hb=> ?_⟩;simp at hb;subst hb;rw[←m,List.pairwise_append]at n
      have:=n.2.2 a f y (by simp)
      omega
     ·rcases List.mem_append.1 e with e|e
      ·exact l x (by rw[←m];exact List.mem_append_left _ e)
      ·simp at e;subst e;exact g
    ·rename_i hl
     refine⟨?_,fun x e=> ?_⟩
     ·rw[List.pairwise_append]
      refine⟨n,by simp,fun a f b hb=> ?_⟩;simp at hb;subst hb;have A:=r y (by rw[←m];simp);rw[←m]at f
      rcases List.mem_append.1 f with f|f
      ·rw[←m,List.pairwise_append]at n
       have:=n.2.2 a f y (by simp)
       omega
      ·simp at f;subst f;omega
     ·rcases List.mem_append.1 e with e|e
      ·exact l x e
      ·simp at e;subst e;exact g
   ·exact⟨by simp,fun x e=>by simp at e;subst e;exact g⟩
  ·exact⟨n,l⟩
def cellAt (log:List LE) (x:ag):ak:=match log[x.slot.toNat]? with|some (.cell _ c)=>c|_=>⟨0,0,0,false,⟨#[]⟩⟩
def cellsOf (log:List LE) (vers:List ag) (ep:Int):List ak:=(bH vers ep).map (cellAt log)
theorem ka {log:List LE} {key:ByteArray} {b:av} {a:List ag} (h:bY log key b a) {ep:Int} {x:ag} (j:x∈bH a ep):∃(k:Nat) (y:AV) (c:ak),x=⟨y.lba,y.epoch,(k:Int)⟩∧log[k]?=some (LE.cell y c)∧y.epoch=ep∧c.epoch=ep:=by
 have d:=lQ h.sort ep a.length (Nat.le_refl _);rw[List.take_of_length_le (Nat.le_refl _)]at d;obtain⟨g,t,_,i⟩:=d.2 x j;obtain⟨k,y,c,e,f⟩:=h.vin t x i;have hy:y.epoch=ep:=by rw[←g,e]
 exact⟨k,y,c,e,f,hy,(h.fit k y c f).epoch.trans hy⟩
theorem iN {log:List LE} {k:Nat} {y z:AV} {c:ak} (h:log[k]?=some (LE.cell z c)):cellAt log ⟨y.lba,y.epoch,(k:Int)⟩=c:=by
 unfold cellAt;simp only[Int.toNat_natCast,h]
theorem nJ {log d:List LE} {key:ByteArray} {b:av} {a:List ag} (h:bY log key b a) (ep:Int) (hc:∀(k:Nat) (y:AV) (c:ak),log[k]?=some (LE.cell y c)→c.epoch=ep→d[k]?=some (LE.cell y c)):cellsOf d a ep=cellsOf log a ep:=by
 unfold cellsOf;refine List.map_congr_left fun x g=> ?_
 obtain⟨k,y,c,rfl,e,_,f⟩:=ka h g;rw[iN e,iN (hc k y c e f)]
theorem kR {log:List LE} {key:ByteArray} {b:av} {a:List ag} (h:bY log key b a) (ep:Int) (e:LE):cellsOf (log++[e]) a ep=cellsOf log a ep:=
 nJ h ep fun k y c d _=>by rw[List.getElem?_append_left (List.getElem?_eq_some_iff.1 d).1];exact d
theorem zO {log:List LE} {key:ByteArray} {b:av} {a:List ag} (h:bY log key b a) {ep t:Int} (e:ep≠t):cellsOf (log.map (cZ t)) a ep=cellsOf log a ep:=
 nJ h ep fun k y c d f=>by
  rw[List.getElem?_map,d]
  show some (cZ t (.cell y c))= _
  unfold cZ;simp only;rw[if_neg (by omega)]
theorem uw (a b:List ag) (ep:Int):bH (a++b) ep=b.foldl (du ep) (bH a ep):=List.foldl_append
theorem ux {l:List ag} {v:ag} {ep:Int} (h:v.epoch≠ep):bH (eC l v) ep=bH l ep:=by
 unfold eC;rw[uw,List.foldl_cons,show du ep (bH (l.take (jh v l)) ep) v=bH (l.take (jh v l)) ep from if_neg h,←uw,List.take_append_drop]
structure cO (log:List LE) (vers:List ag) (b:av) (epoch:Int) (l:List aD):Prop where
 lt:∀(k:Nat) (x:aD),l[k]?=some x→x.r.kind=1→x.r.epoch<epoch
 count:∀(k:Nat) (x:aD),l[k]?=some x→x.r.kind=1→x.r.count=((cellsOf log vers x.r.epoch).length:Int)
 root:∀(k:Nat) (x:aD),l[k]?=some x→x.r.kind=1→b.gone x.r.epoch=false→x.r.root.data.toList=re x.r.epoch (cellsOf log vers x.r.epoch)
theorem cellsOf_length (log:List LE) (a:List ag) (ep:Int):(cellsOf log a ep).length=(bH a ep).length:=by unfold cellsOf;simp
theorem cO.to {log f:List LE} {e c:List ag} {b b':av} {a d:Int} {l:List aD} (h:cO log e b a l) (m:a≤d) (o:∀ep,ep<a→bH c ep=bH e ep) (n:∀ep,b'.gone ep=false→b.gone ep=false)
  (hc:∀ep,ep<a→b'.gone ep=false→cellsOf f c ep=cellsOf log e ep):cO f c b' d l where
 lt:=fun k x i g=>Int.lt_of_lt_of_le (h.lt k x i g) m
 count:=fun k x i g=>by
  rw[h.count k x i g,cellsOf_length,cellsOf_length,o _ (h.lt k x i g)]
 root:=fun k x i g j=>by
  rw[h.root k x i g (n _ j),hc _ (h.lt k x i g) j]
theorem cO.write {log:List LE} {key:ByteArray} {c:List ag} {b:av} {a:Int} {l:List aD} (h:cO log c b a l) (f:bY log key b c) {y:ag} (hy:y.epoch=a) (e:LE):cO (log++[e]) (eC c y) b a l:=
 h.to (Int.le_refl _) (fun ep d=>ux (by omega)) (fun ep g=>g) (fun ep d _=>by
   show(bH (eC c y) ep).map _= _
   rw[ux (by omega)];exact kR f ep e)
theorem cO.record {log:List LE} {key:ByteArray} {c:List ag} {b b':av} {a:Int} {l:List aD} (h:cO log c b a l) (d:bY log key b c) (hb:b'.gone=b.gone) (e:LE):cO (log++[e]) c b' a l:=
 h.to (Int.le_refl _) (fun _ _=>rfl) (fun ep f=>by rw[←hb];exact f) (fun ep _ _=>kR d ep e)
theorem cO.purge {log:List LE} {key:ByteArray} {c:List ag} {b b':av} {a:Int} {l:List aD} (h:cO log c b a l) (f:bY log key b c) {t:Int} (hb:∀e,b'.gone e=if e=t then true else b.gone e):cO (log.map (cZ t)) c b' a l:=
 h.to (Int.le_refl _) (fun _ _=>rfl) (fun ep d=>by rw[hb]at d;split at d;cases d;exact d) (fun ep _ d=>zO f (fun g=>by rw[hb,if_pos g]at d;cases d))
theorem cO.other {log:List LE} {d:List ag} {b:av} {a:Int} {l:List aD} (h:cO log d b a l) {x:aD} (i:x.r.kind≠1):cO log d b a (l++[x]):=by
 have e:∀(k:Nat) (y:aD),(l++[x])[k]?=some y→y.r.kind=1→l[k]?=some y:=fun k y hy c=>by
  by_cases f:k<l.length
  ·rw[List.getElem?_append_left f]at hy;exact hy
  ·rw[List.getElem?_append_right (by omega)]at hy
   have g:=List.mem_of_getElem? hy;simp at g;subst g;exact absurd c i
 exact⟨fun k y hy c=>h.lt k y (e k y hy c) c,fun k y hy c=>h.count k y (e k y hy c) c,fun k y hy c=>h.root k y (e k y hy c) c⟩
theorem cO.close {log:List LE} {c:List ag} {b:av} {a:Int} {l:List aD} (h:cO log c b a l) {x:aD} (g:x.r.epoch=a) (hc:x.r.count=((cellsOf log c a).length:Int)) (m:x.r.root.data.toList=re a (cellsOf log c a)):cO log c b (a+1) (l++[x]):=by
 have d:∀(k:Nat) (y:aD),(l++[x])[k]?=some y→l[k]?=some y∨y=x:=fun k y hy=>by
  by_cases f:k<l.length
  ·rw[List.getElem?_append_left f]at hy;exact .inl hy
  ·rw[List.getElem?_append_right (by omega)]at hy
   have i:=List.mem_of_getElem? hy;simp at i;exact .inr i
 refine⟨fun k y hy e=> ?_,fun k y hy e=> ?_,fun k y hy e j=> ?_⟩
 ·rcases d k y hy with h1|rfl
  ·have:=h.lt k y h1 e;omega
  ·omega
 ·rcases d k y hy with h1|rfl
  ·exact h.count k y h1 e
  ·rw[g];exact hc
 ·rcases d k y hy with h1|rfl
  ·exact h.root k y h1 e j
  ·rw[g];exact m
def gu (v:ai) (block kb:ByteArray):am:={({v.d with cs:=v.d.cs++[(4+v.used,block)]}:am)with cs:=({v.d with cs:=v.d.cs++[(4+v.used,block)]}:am).cs++[(2+(v.last.epoch+1) % 2,kb)]}
def gx (v:ai) (block kb q:ByteArray):am:={(gu v block kb).flushed with cs:=(gu v block kb).flushed.cs++[((v.last.gen+1) % 2,q)]}
def rf (v:ai) (block kb q nb:ByteArray):am:={(gx v block kb q).flushed with cs:=(gx v block kb q).flushed.cs++[(2+v.last.epoch % 2,nb)]}
theorem qz (v:ai) (a kb q nb:ByteArray):ff v a kb q nb=(rf v a kb q nb).flushed:=rfl
theorem mD {v:ai} {n m:Nat} (h:Calm v.d n m) (c:0≤v.used) (e:4+v.used<n) (b:4≤n) (a kb:ByteArray):Calm (gu v a kb) n (m+2):=
 (h.put (i:=4+v.used) (by omega) (by omega) v.d.cv a).put (i:=2+(v.last.epoch+1) % 2) (by omega) (by omega) v.d.cv kb
theorem mE {v:ai} {n m:Nat} (h:Calm v.d n m) (c:0≤v.used) (e:4+v.used<n) (b:4≤n) (a kb q:ByteArray):Calm (gx v a kb q) n 1:=
 (mD h c e b a kb).flushed.put (i:=(v.last.gen+1) % 2) (by omega) (by omega) _ q
theorem mF {v:ai} {n m:Nat} (h:Calm v.d n m) (c:0≤v.used) (e:4+v.used<n) (b:4≤n) (a kb q nb:ByteArray):Calm (rf v a kb q nb) n 1:=
 (mE h c e b a kb q).flushed.put (i:=2+v.last.epoch % 2) (by omega) (by omega) _ nb
theorem ol {v:ai} {n m:Nat} (h:Calm v.d n m) (c:0≤v.used) (e:4+v.used<n) (b:4≤n) (a kb q nb:ByteArray):Calm (ff v a kb q nb) n 0:=
 (mF h c e b a kb q nb).flushed
theorem ke {v:ai} {n m:Nat} (h:Calm v.d n m) (c:0≤v.used) (e:4+v.used<n) (b:4≤n) (a kb q nb:ByteArray) (i:Int) (l:4≤i):
  (ff v a kb q nb).shown i=if 4+v.used=i then a else v.d.shown i:=by
 rw[qz,dj (mF h c e b a kb q nb) i (by omega)]
 have k:(rf v a kb q nb).shown i=(gx v a kb q).flushed.shown i:=
  (dr (gx v a kb q).flushed (gx v a kb q).flushed.cv (2+v.last.epoch % 2) i nb).trans (if_neg (by omega))
 have j:(gx v a kb q).shown i=(gu v a kb).flushed.shown i:=
  (dr (gu v a kb).flushed (gu v a kb).flushed.cv ((v.last.gen+1) % 2) i q).trans (if_neg (by omega))
 have g:(gu v a kb).shown i=({v.d with cs:=v.d.cs++[(4+v.used,a)]}:am).shown i:=
  (dr ({v.d with cs:=v.d.cs++[(4+v.used,a)]}:am) v.d.cv (2+(v.last.epoch+1) % 2) i kb).trans (if_neg (by omega))
 have f:=dr v.d v.d.cv (4+v.used) i a;rw[k,dj (mE h c e b a kb q) i (by omega),j,dj (mD h c e b a kb) i (by omega),g];exact f
open Go.ChangeShapes Go.WideShapes Go.Deep
structure aG where
 kind:Int
 lba:Int
 epoch:Int
 time:Int
 data:ByteArray
 name:ByteArray
 kp:Option Addr
 kn:Nat
 kc:Nat
def aG.cells (c:aG):List Value:=[.int .i64 c.kind, .int .i64 c.lba, .int .i64 c.epoch, .int .i64 c.time, .string c.data, .string c.name, .slice c.kp c.kn c.kc]
def aG.v (c:aG):Value:= .agg c.cells.toArray
section
variable {H:Type} {enc:TypeId×Value→H} {w:World} {base:Nat} {spare:Nat→Bool} {held:Bool}
theorem IL {t e:TypeId} {b:Nat} {cs:List Value} {x:DataW H×List MemPlace} (d:prog.underlying t=some (.slice e)) (h:DataW.trod enc prog w base spare held b t cs=some x):∃p n c,cs=[.slice p n c]∧n≤9223372036854775807:=by
 rcases DataW.trod_slice d h with h0|⟨a,len,cap,elems,rest,n,_,rfl,rfl,hb,hl,hm,_⟩
 ·exact⟨none,0,0,by first|exact h0.1|exact h0,by omega⟩
 ·exact⟨some a,len,cap,rfl,by have:maxLen=9223372036854775807:=rfl;omega⟩
theorem Gm {d:Nat} {cs:List Value} {x:DataW H×List MemPlace} (h:DataW.trod enc prog w base spare held d 36 cs=some x):∃c:aG,cs=c.cells∧c.kn≤9223372036854775807:=by
 obtain⟨xs,n,_,_,hl,e,b⟩:=DataW.trod_struct underlying36 h;have hc:prog.cellsOf 36=7:=by kernel_rfl
 have g:prog.cellsOf 34=1:=by kernel_rfl
 have a:prog.cellsOf 3=1:=by kernel_rfl
 have f:prog.cellsOf 9=1:=by kernel_rfl
 rw[hc]at hl
 match xs,e with
 |[y0,y1,y2,y3,y4,y5,y6],_=>
  have i:DataW.trod enc prog w base spare held n 3 (List.take (prog.cellsOf 3) (List.drop 0 cs))=some y0:=b 0 _ rfl;rw[a]at i;have j:DataW.trod enc prog w base spare held n 3 (List.take (prog.cellsOf 3) (List.drop 1 cs))=some y1:=b 1 _ rfl;rw[a]at j;have k:DataW.trod enc prog w base spare held n 3 (List.take (prog.cellsOf 3) (List.drop 2 cs))=some y2:=b 2 _ rfl;rw[a]at k;have l:DataW.trod enc prog w base spare held n 3 (List.take (prog.cellsOf 3) (List.drop 3 cs))=some y3:=b 3 _ rfl;rw[a]at l;have m:DataW.trod enc prog w base spare held n 9 (List.take (prog.cellsOf 9) (List.drop 4 cs))=some y4:=b 4 _ rfl;rw[f]at m;have o:DataW.trod enc prog w base spare held n 9 (List.take (prog.cellsOf 9) (List.drop 5 cs))=some y5:=b 5 _ rfl;rw[f]at o;have p:DataW.trod enc prog w base spare held n 34 (List.take (prog.cellsOf 34) (List.drop 6 cs))=some y6:=b 6 _ rfl;rw[g]at p;obtain⟨C,r,_,L⟩:=DataW.trod_int underlying3 i;obtain⟨D,s,_,M⟩:=DataW.trod_int underlying3 j;obtain⟨E,t,_,N⟩:=DataW.trod_int underlying3 k;obtain⟨F,u,_,O⟩:=DataW.trod_int underlying3 l;obtain⟨G,v,_,P⟩:=DataW.trod_string underlying9 m;obtain⟨I,y,_,Q⟩:=DataW.trod_string underlying9 o;obtain⟨K,J,q,z,B⟩:=IL underlying34 p
  have A:cs=(cs.drop 0).take 1++((cs.drop 1).take 1++((cs.drop 2).take 1++((cs.drop 3).take 1++((cs.drop 4).take 1++((cs.drop 5).take 1++((cs.drop 6).take 1)))))):=by
   match cs,hl with
   |[_,_,_,_,_,_,_],_=>rfl
  rw[A,r,s,t,u,v,y,z];exact⟨⟨C,D,E,F,G,I,K,J,q⟩,rfl,B⟩
end
theorem Ed {v:ai} (h:oa v) {a:Int} (k:0≤a) (l:a≤4096) {s t:ByteArray} (i:s.size=32) (j:t.size=32):
  ic (v.sealed++[⟨aE v a s,t⟩]) (v.sealed.length:Int)=(⟨(v.sealed.length:Int),aE v a s,bO v.sealed,t⟩,0):=by
 have g:fM (v.sealed++[⟨aE v a s,t⟩]) v.sealed.length ⟨aE v a s,t⟩=⟨(v.sealed.length:Int),aE v a s,bO v.sealed,t⟩:=by
  unfold fM;rw[List.take_left]
 have f:jv (⟨(v.sealed.length:Int),aE v a s,bO v.sealed,t⟩:bJ)=true:=by
  have b:=kZ h k l i;have c:=h.last;have m:=h.sealed;have d:(v.sealed.length:Int)≤4294967295:=by omega
  have e:(aE v a s).kind=1:=rfl;simp[jv,b,c,d,e,j]
 have hc:iz (v.sealed++[⟨aE v a s,t⟩]) (v.sealed.length:Int)=some ⟨aE v a s,t⟩:=by
  simp[iz,aE]
 unfold ic;rw[hc]
 dsimp only
 rw[Int.toNat_natCast,g,if_pos f]
def je (v:ai) (cnt:Int) (s t bl nk kb q nb:ByteArray):ai:={v with used:=v.used+1,last:=ev v v.clock,d:=ff v bl kb q nb,key:=nk,sealed:=v.sealed++[⟨aE v cnt s,t⟩],epoch:=v.epoch+1,now:=v.clock}
end Go.Proofs.YtadooplpfhdhcaaGreat
