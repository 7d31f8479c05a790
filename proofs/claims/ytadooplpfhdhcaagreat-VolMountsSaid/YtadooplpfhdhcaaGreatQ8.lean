/- Clocks, spaces, books, indices (chapters 6, 12, 22, 23): what New makes, and how they look. Looks of books and spaces (chapters 12, 23). A journal's steps (chapter 25): write, and its closure. A journal's steps (chapter 25): flush, write, flush; of a disk that has power. -/
import Derived.Test.YtadooplpfhdhcaaGreatQ7
import Derived.WalkSpells
import Derived.Test.YtadooplpfhdhcaaGreatQ4
import Derived.Maps.OwnSet
import Derived.Maps.OwnOps
import Derived.Maps.StringElems
import Derived.Test.YtadooplpfhdhcaaGreatQ5
import Derived.Laws.BitsAllLaws
import Derived.Deep.QuietTactic
set_option linter.unusedSimpArgs false
set_option linter.unusedVariables false
set_option maxRecDepth 100000
set_option maxHeartbeats 4000000
namespace Go.Proofs.YtadooplpfhdhcaaGreat
open Go Go.RowKit Go.Maps Go.WideMaps
open Go.Lib (hid)
open Go.Proofs.Tryz
theorem kF (t:Int) (w:World) (g:0≤t) (h:t≤1099511627776):
  Calls prog 122 #[.int .i64 t] w fun e w'=>(∃a,e= .returned (.tuple #[.pointer (some ⟨a,0,none⟩), .int .i64 0])∧ac w' a [.bool true, .int .i64 t] 188∧w.heap.size≤a)∧Below w.heap.size w w':=by
 go_enter func122,ntmps122;go_wp2_with fail;refine Calls.mono (show Calls prog 201 #[.int .i64 t] _ (fun e w'=>e= .returned (.bool true)∧w=w')from ?_) ?_
 ·go_enter func201,ntmps201
  go_wp2_with fail;go_ret;exact⟨rfl,rfl⟩
 rintro e i ⟨rfl,rfl⟩
 go_wp2_with (first
  |((with_reducible refine ae 188 (.tmp 8) ([.bool true, .int .i64 t]) (some 9) ?hgd ?ho ?hd ?hx ?_);(case hgd|ho|hd|hx=>rfl);(intro d j b c f k))
  |fail)
 go_ret2;exact⟨⟨d,rfl,c,b⟩,f.mono b⟩
theorem fR (a:Nat) (t:Int) (w:World) (h:ac w a [.bool true, .int .i64 t] 188):
  Calls prog 116 #[.pointer (some ⟨a,0,none⟩)] w fun e w'=>e= .returned (.bool true)∧w=w':=by
 have b:=h.cell (i:=0) rfl;go_enter func116,ntmps116;go_wp2_with fail;go_ret;exact⟨rfl,rfl⟩
theorem dC (a:Nat) (t:Int) (w:World) (h:ac w a [.bool true, .int .i64 t] 188):
  Calls prog 41 #[.pointer (some ⟨a,0,none⟩)] w fun e w'=>e= .returned (.int .i64 t)∧w=w':=by
 have b:=h.cell (i:=1) rfl;go_enter func41,ntmps41;go_wp2_with fail
 refine(fR a t _ h).mono ?_
 rintro e c ⟨rfl,rfl⟩;go_wp2_with fail;go_ret;exact⟨rfl,rfl⟩
def bL (g:aH) (used:Int):List Value:=[.int .i64 g.blocks, .int .i64 g.lbas, .int .i64 g.first, .int .i64 used, .bool true]
theorem yw (g:aH) (a:Int) (w:World) (hg:cA g) (D:0≤a) (r:a≤g.blocks-4):
  Calls prog 199 #[g.v, .int .i64 a] w fun e w'=>(∃o,e= .returned (.tuple #[.pointer (some ⟨o,0,none⟩), .int .i64 0])∧ac w' o (bL g a) 242∧w.heap.size≤o)∧Below w.heap.size w w':=by
 have B:decide (a<0)=false:=decide_eq_false (by omega);have n:=hg.b1;go_enter func199,ntmps199
 go_wp2_with (first
  |((with_reducible refine ae 23 (.tmp 0) (g.cells) (some 2) ?hgd ?ho ?hd ?hx ?_);(case hgd|ho|hd|hx=>rfl);(intro h H t l q x))
  |((with_reducible refine ao 23 (.tmp 2) h 0 g.cells _ (some 6) l.range underlying23 rfl bG ?hg ?ho ?hds ?hx ?_);(case ho|hg|hds|hx=>rfl))
  |fail)
 refine(fj g _ hg).mono ?_
 rintro e I ⟨rfl,c⟩;have k:=l.below c x;have f:=(q.mono t).trans (c.mono (Nat.le_trans t (Nat.le_of_lt x)))
 go_wp2_with (first
  |((with_reducible refine ao 23 (.tmp 2) h 0 g.cells _ (some 15) k.range underlying23 rfl bG ?hg ?ho ?hds ?hx ?_);(case ho|hg|hds|hx=>rfl))
  |fail)
 refine(iw g _ hg).mono ?_
 rintro e p ⟨rfl,d⟩;have m:=k.below d k.lt;have j:=f.trans (d.mono f.size);clear c d f l k q;obtain⟨blocks,b,first⟩:=g;have C:decide ((blocks-4:Int)<a)=false:=decide_eq_false (by simp only at r;omega);have E:p.cell? ⟨h,0,none⟩=some (.int .i64 blocks):=m.cell (i:=0) rfl;have F:p.cell? ⟨h,1,none⟩=some (.int .i64 b):=m.cell (i:=1) rfl;have G:p.cell? ⟨h,2,none⟩=some (.int .i64 first):=m.cell (i:=2) rfl;clear r n
 go_wp2_with (first
  |((with_reducible refine ae 242 (.tmp 21) (bL ⟨blocks,b,first⟩ a) (some 22) ?hgd ?ho ?hd ?hx ?_);(case hgd|ho|hd|hx=>rfl);(intro z J u y A K))
  |fail)
 go_ret2;have s:=j.size;exact⟨⟨z,rfl,y,Nat.le_trans s u⟩,j.trans (A.mono (Nat.le_trans s u))⟩
theorem pC (w:World):
  Calls prog 119 #[] w fun e w'=>(∃a,e= .returned (.pointer (some ⟨a,0,none⟩))∧ac w' a [.bool true, .slice none 0 0] 238∧w.heap.size≤a)∧Below w.heap.size w w':=by
 go_enter func119,ntmps119
 go_wp2_with (first
  |((with_reducible refine ae 238 (.tmp 1) ([.bool true, .slice none 0 0]) (some 2) ?hgd ?ho ?hd ?hx ?_);(case hgd|ho|hd|hx=>rfl);(intro d g b c f h))
  |fail)
 go_ret;exact⟨⟨d,rfl,c,b⟩,f.mono b⟩
structure bf (w:World) (m1 m2 m3 n:Nat) (U L G:DataW Unit):Prop where
 u:w.ownsMap prog 3 (plainElem prog 3) m1 n U
 l:w.ownsMap prog 9 (plainElem prog 3) m2 n L
 g:w.ownsMap prog 3 (plainElem prog 4) m3 n G
 n1:m1≠m2
 n2:m1≠m3
 n3:m2≠m3
theorem km {S:List Nat} {w d:World} {k:TypeId} {R:Value→Option (DataW Unit×List MemPlace)} {b n:Nat} {D:DataW Unit} (h:w.ownsMap prog k R b n D) (t:af S w d) (hn:b∉S):d.ownsMap prog k R b n D:=by
 have c:=h.lt;obtain⟨e,a,hb,F,g,f⟩:=h;exact⟨e,a,(t.block b c hn).trans hb,F,g,f⟩
theorem As {w:World} {k:TypeId} {R:Value→Option (DataW Unit×List MemPlace)} {b n c:Nat} {D:DataW Unit} {cs:List Value} {t:TypeId} (h:w.ownsMap prog k R b n D) (hb:ac w c cs t):b≠c:=by
 rintro rfl;obtain⟨e,a,d,_⟩:=h;unfold ac at hb;rw[d]at hb
 cases hb
theorem bf.turned {S:List Nat} {w d:World} {a b c n:Nat} {U L G:DataW Unit} (h:bf w a b c n U L G) (t:af S w d) (hn:∀x,x=a∨x=b∨x=c→x∉S):bf d a b c n U L G:=
 ⟨km h.u t (hn a (.inl rfl)),km h.l t (hn b (.inr (.inl rfl))),km h.g t (hn c (.inr (.inr rfl))),h.n1,h.n2,h.n3⟩
theorem bf.below {w d:World} {a b c n:Nat} {U L G:DataW Unit} (h:bf w a b c n U L G) (hb:Below w.heap.size w d):bf d a b c n U L G:=
 h.turned (S:=[]) (af.of_below hb (Nat.le_refl _)) (by simp)
theorem bf.ne {w:World} {a b d n c:Nat} {U L G:DataW Unit} {cs:List Value} {t:TypeId} (h:bf w a b d n U L G) (hb:ac w c cs t):∀x,x=a∨x=b∨x=d→x≠c:=by
 rintro x (rfl|rfl|rfl)
 ·exact As h.u hb
 ·exact As h.l hb
 ·exact As h.g hb
theorem bf.lt {w:World} {a b c n:Nat} {U L G:DataW Unit} (h:bf w a b c n U L G):∀x,x=a∨x=b∨x=c→x<w.heap.size:=by
 rintro x (rfl|rfl|rfl)
 ·exact h.u.lt
 ·exact h.l.lt
 ·exact h.g.lt
def aT (cb:Nat) (first epoch:Int) (m1 m2 m3:Nat):List Value:=[.pointer (some ⟨cb,0,none⟩), .int .i64 first, .int .i64 epoch, .map (some m1), .map (some m2), .map (some m3)]
theorem Hw (p:Value) (first:Int) (b c d:Option Nat) (a:Nat) (hp:p= .pointer (some ⟨a,0,none⟩)):prog.built 193 [(0,p),(1, .int .i64 first),(2, .int .i64 first),(3, .map b),(4, .map c),(5, .map d)]=some [.pointer (some ⟨a,0,none⟩), .int .i64 first, .int .i64 first, .map b, .map c, .map d].toArray:=by subst hp;kernel_rfl
theorem qK (first:Int) (w:World) (t:0≤first) (u:first<4294967296):
  Calls prog 120 #[.int .i64 first] w fun e w'=>(∃g b i j k,e= .returned (.tuple #[.pointer (some ⟨g,0,none⟩), .int .i64 0])∧ac w' g (aT b first first i j k) 193∧ac w' b [.bool true, .int .i64 0] 188∧w.heap.size≤g∧w.heap.size≤b∧bf w' i j k 0 (.map []) (.map []) (.map [])∧w.heap.size≤i∧w.heap.size≤j∧w.heap.size≤k)∧Below w.heap.size w w':=by
 have o:=@run_makeMap prog;have hd:¬(4294967295:Int)<first:=by omega
 go_enter func120,ntmps120;go_wp2_with fail
 refine(kF 0 _ (by decide) (by decide)).mono ?_
 rintro e a ⟨⟨b,rfl,l,m⟩,d⟩;have f:=hid l;have c:=hid d;have n:=hid m;clear l d m
 go_wp2_with (first
  |((with_reducible refine au 193 ?parts (aT b first first a.heap.size (a.alloc (.map #[] 0)).heap.size ((a.alloc (.map #[] 0)).alloc (.map #[] 0)).heap.size) ?hg ?ho ?hf ?_);(case hg|ho=>rfl);(case hf=>exact Hw _ first _ _ _ b rfl))
  |((with_reducible refine ae 193 (.tmp 22) (aT b first first a.heap.size (a.alloc (.map #[] 0)).heap.size ((a.alloc (.map #[] 0)).alloc (.map #[] 0)).heap.size) (some 23) ?hgd ?ho ?hd ?hx ?_);(case hgd|ho|hd|hx=>rfl);(intro r x v q s y))
  |fail)
 go_ret2;have p:=c.size;refine⟨⟨_,b,a.heap.size,a.heap.size+1,a.heap.size+1+1,rfl, ?_,(((f.alloc _).alloc _).alloc _).alloc _,by omega,n.out,⟨?_, ?_, ?_,by omega,by omega,by omega⟩,by omega,by omega,by omega⟩,(((c.alloc p _).alloc (by simp;omega) _).alloc (by simp;omega) _).alloc (by simp;omega) _⟩
 ·have:=ac.new (((a.alloc (.map #[] 0)).alloc (.map #[] 0)).alloc (.map #[] 0)) (aT b first first a.heap.size (a.heap.size+1) (a.heap.size+1+1)) 193
  simp at this;exact this
 ·exact(((World.ownsMap_made a _ _ _).alloc _).alloc _).alloc _
 ·have h:(a.alloc (.map #[] 0)).heap.size=a.heap.size+1:=by simp
  have:=((World.ownsMap_made (H:=Unit) (a.alloc (.map #[] 0)) prog 9 (plainElem prog 3)).alloc (.map #[] 0)).alloc (Obj.cells (aT b first first a.heap.size (a.heap.size+1) (a.heap.size+1+1)).toArray 193)
  rw[h]at this;exact this
 ·have h:((a.alloc (.map #[] 0)).alloc (.map #[] 0)).heap.size=a.heap.size+1+1:=by simp
  have:=(World.ownsMap_made (H:=Unit) ((a.alloc (.map #[] 0)).alloc (.map #[] 0)) prog 3 (plainElem prog 4)).alloc (Obj.cells (aT b first first a.heap.size (a.heap.size+1) (a.heap.size+1+1)).toArray 193)
  rw[h]at this;exact this
theorem dJ (b c:Nat) (first a:Int) (d f g:Nat) (w:World) (h:ac w b (aT c first a d f g) 193):
  Calls prog 117 #[.pointer (some ⟨b,0,none⟩)] w fun e w'=>e= .returned (.bool true)∧w=w':=by
 have j:=h.cell (i:=0) rfl;go_enter func117,ntmps117;go_wp2_with fail;go_ret;exact⟨rfl,rfl⟩
theorem aR (b c:Nat) (first a:Int) (d f g:Nat) (w:World) (h:ac w b (aT c first a d f g) 193):
  Calls prog 42 #[.pointer (some ⟨b,0,none⟩)] w fun e w'=>e= .returned (.int .i64 a)∧w=w':=by
 have j:=h.cell (i:=2) rfl;go_enter func42,ntmps42;go_wp2_with fail
 refine(dJ b c first a d f g _ h).mono ?_
 rintro e k ⟨rfl,rfl⟩;go_wp2_with fail;go_ret;exact⟨rfl,rfl⟩
theorem ko (c b:Nat) (first a:Int) (d f g:Nat) (w:World) (h:ac w c (aT b first a d f g) 193) (t:Int) (hc:ac w b [.bool true, .int .i64 t] 188):
  Calls prog 124 #[.pointer (some ⟨c,0,none⟩)] w fun e w'=>e= .returned (.int .i64 t)∧w=w':=by
 have k:=h.cell (i:=0) rfl;go_enter func124,ntmps124;go_wp2_with fail
 refine(dJ c b first a d f g _ h).mono ?_
 rintro e j ⟨rfl,rfl⟩;go_wp2_with fail
 refine(dC b t _ hc).mono ?_
 rintro e j ⟨rfl,rfl⟩;go_wp2_with fail;go_ret;exact⟨rfl,rfl⟩
theorem fS (b:Nat) (g:aH) (a:Int) (w:World) (h:ac w b (bL g a) 242) (c:cA g):
  Calls prog 168 #[.pointer (some ⟨b,0,none⟩)] w fun e w'=>e= .returned (.bool true)∧w=w':=by
 have d:=h.cell (i:=0) rfl;have f:=h.cell (i:=4) rfl;have hb:0<g.blocks:=by have:=c.b0;omega
 go_enter func168,ntmps168;go_wp2_with fail;go_ret;exact⟨rfl,rfl⟩
theorem kG (b:Nat) (g:aH) (a:Int) (w:World) (h:ac w b (bL g a) 242) (c:cA g):
  Calls prog 153 #[.pointer (some ⟨b,0,none⟩)] w fun e w'=>e= .returned (.int .i64 a)∧w=w':=by
 have d:=h.cell (i:=3) rfl;go_enter func153,ntmps153;go_wp2_with fail
 refine(fS b g a _ h c).mono ?_
 rintro e f ⟨rfl,rfl⟩;go_wp2_with fail;go_ret;exact⟨rfl,rfl⟩
structure fU (w:World) (jb p3 p4 p5:Nat) (i:Int) (s:ByteArray):Prop where
 j:ac w p3 [.pointer (some ⟨jb,0,none⟩)] 98
 i:ac w p4 [.int .i64 i] 3
 s:ac w p5 [.string s] 9
theorem fU.below {w e:World} {a b c d:Nat} {i:Int} {s:ByteArray} (h:fU w a b c d i s) (hb:Below w.heap.size w e):fU e a b c d i s:=
 ⟨h.j.below hb h.j.lt,h.i.below hb h.i.lt,h.s.below hb h.s.lt⟩
theorem fU.turned {S:List Nat} {w e:World} {d a b c:Nat} {i:Int} {s:ByteArray} (h:fU w d a b c i s) (t:af S w e) (f:a∉S) (g:b∉S) (k:c∉S):fU e d a b c i s:=
 ⟨t.blk h.j f,t.blk h.i g,t.blk h.s k⟩
theorem fZ (d:Nat) (i:Int) (s:ByteArray) (w:World):
  Calls prog 97 #[.pointer (some ⟨d,0,none⟩), .int .i64 i, .string s] w fun e w'=>(∃g h j,e= .returned (.func (.func 187) #[] #[.pointer (some ⟨g,0,none⟩), .pointer (some ⟨h,0,none⟩), .pointer (some ⟨j,0,none⟩)])∧fU w' d g h j i s∧w.heap.size≤g∧w.heap.size≤h∧w.heap.size≤j)∧Below w.heap.size w w':=by
 have y:∀(l:Fn) (first a:Array Value) (w:World),(Instr.makeFunc l first a).run prog w= .ok (.func l first a) w:=fun _ _ _ _=>rfl
 go_enter func97,ntmps97
 go_wp2_with (first
  |((with_reducible refine aO 98 (.tmp 0) (.pointer (some ⟨d,0,none⟩)) rfl (some 3) ?hgd ?ho ?hd ?hx ?_);(case hgd|ho|hd|hx=>rfl);(intro v z f r x p))
  |((with_reducible refine aO 3 (.tmp 1) (.int .i64 i) rfl (some 4) ?hgd ?ho ?hd ?hx ?_);(case hgd|ho|hd|hx=>rfl);(intro b2 A n t k q))
  |((with_reducible refine aO 9 (.tmp 2) (.string s) rfl (some 5) ?hgd ?ho ?hd ?hx ?_);(case hgd|ho|hd|hx=>rfl);(intro b3 B o u b C))
  |fail)
 go_ret;have c:w.heap.size≤b2:=Nat.le_trans f (Nat.le_of_lt (Nat.lt_of_lt_of_le p n));have m:w.heap.size≤b3:=Nat.le_trans c (Nat.le_of_lt (Nat.lt_of_lt_of_le q o));exact⟨⟨v,b2,b3,rfl,⟨(r.below k (Nat.lt_of_lt_of_le p n)).below b (by omega),t.below b (Nat.lt_of_lt_of_le q o),u⟩,f,c,m⟩,((x.mono f).trans (k.mono c)).trans (b.mono m)⟩
theorem gQ (n c o p q:Nat) (d:am) (i:Int) (s:ByteArray) (w:World) (h:aC w c d) (B:w.cell? ⟨n,1,none⟩=some (.pointer (some ⟨c,0,none⟩))) (bA:fU w n o p q i s)
  (hd:d.down=false) (hl:d.left=0) (hc:d.cs.length<4096) (k:0≤i) (b:i<d.bs.length) (l:s.size=4096):
  Calls prog 187 #[.pointer (some ⟨o,0,none⟩), .pointer (some ⟨p,0,none⟩), .pointer (some ⟨q,0,none⟩)] w fun e x=>e= .returned (.int .i64 0)∧∃a,bg w x c d {d with cv:=a,cs:=d.cs++[(i,s)]}:=by
 have y:=bA.j.cell (i:=0) rfl;have z:=bA.i.cell (i:=0) rfl;have A:=bA.s.cell (i:=0) rfl;have t:=hid h;have f:=hid (And.intro k b);have u:=hid l;have r:=hid hc;clear h bA k b l hc;go_enter func187,ntmps187;go_wp2_with fail;refine aK 6 (by kernel_rfl) (by kernel_rfl) ?_;simp only[List.take_succ_cons,List.take_zero,List.drop_succ_cons,List.drop_zero]
 iterate 6 still_step
 refine wpStill_nil ?_;go_wp2_with fail;have g:=t.below ((Below.refl w.heap.size w).drew)
 refine(Ci c d _ g hd hl r.out i s f.out.1 f.out.2 u.out).mono ?_
 rintro e C ⟨rfl,a,m⟩;have v:=hid (bg.ahead ((Below.refl w.heap.size w).drew) m);clear m g;go_wp2_with fail;go_ret;exact⟨rfl,a,v.out⟩
theorem Au (q f g c F G H:Nat) (t:TypeId) (d:am) (i:Int) (s:ByteArray) (w:World) (h:aC w f d) (n:ac w g [.func (.func 100) #[.pointer (some ⟨f,0,none⟩)] #[], .func (.func 187) #[] #[.pointer (some ⟨F,0,none⟩), .pointer (some ⟨G,0,none⟩), .pointer (some ⟨H,0,none⟩)], .func (.func 100) #[.pointer (some ⟨f,0,none⟩)] #[]] t) (R:w.cell? ⟨q,1,none⟩=some (.pointer (some ⟨f,0,none⟩))) (C:q<w.heap.size) (bA:fU w q F G H i s)
  (hn:∀x,x=g∨x=q∨x=F∨x=G∨x=H→x∉d.foot f)
  (hd:d.down=false) (hl:d.left=0) (hc:d.cs.length<4096) (hb:d.bs.length≤1024) (B:∀(j:Nat) p,d.cs[j]?=some p→0≤p.1∧p.1<d.bs.length) (Q:0≤i) (A:i<d.bs.length) (T:s.size=4096):
  Calls prog 96 #[.pointer (some ⟨q,0,none⟩), .slice (some ⟨g,0,none⟩) 3 c] w fun e w'=>e= .returned (.int .i64 0)∧∃d',d'=(({d.flushed with cs:=[(i,s)]}:am)).flushed∧bg w w' f d d':=by
 have W:=hid h;have Y:=hid n;have X:=hid R;have N:=hid bA;have y:=hid hn;have K:=hid B;have I:=hid (And.intro Q A);have Z:=hid T;have V:=hid hc;have L:=hid C;have J:=hid hd;have r:=hid hl;clear hd hl;clear h n R bA hn B Q A T hc C;go_enter func96,ntmps96;go_wp2_with fail;go_loopw [10] (fun v wr=>∃(k:Nat) (d':am),k≤3∧v= .int .i64 k∧((k=0→d'=d)∧(k=1→d'=d.flushed)∧(k=2→(∃cv,d'={d.flushed with cv:=cv,cs:=[(i,s)]}))∧(k=3→d'=(({d.flushed with cs:=[(i,s)]}:am)).flushed))∧bg w wr f d d') (fun v _=>3-(intOf v).toNat)
 case atStart=>exact⟨0,d,by omega,rfl,⟨fun _=>rfl,fun h=>(by cases h),fun h=>(by cases h),fun h=>(by cases h)⟩,bg.refl W.out⟩
 case round=>
  obtain⟨k,d',D,rfl,a,E⟩:=hrel;have l:=hid E;have m:=hid a;clear E a;have S:=l.turned.blk Y.out (y.out g (by simp));have u:=hid S;have M:=hid (show wr.cell? ⟨q,1,none⟩=some (.pointer (some ⟨f,0,none⟩)) by rw[l.turned.cell L.out (y.out q (by simp))];exact X.out);have z:=hid (N.turned l.turned (y.out F (by simp)) (y.out G (by simp)) (y.out H (by simp)));clear S
  match k,D with
  |0,D=>
   have P:=u.cell (i:=0) rfl;go_wp2_with fail;obtain rfl:d'=d:=m.out.1 (by trivial)
   refine(iC f d' _ l.at' J.out r.out (Nat.le_of_lt V.out) hb K.out).mono ?_
   rintro e U ⟨rfl,o⟩;have b:=hid o;clear o;go_wp2_with fail;go_roundw
   case rel=>exact⟨1,_,by omega,rfl,⟨fun h=>(by cases h),fun _=>rfl,fun h=>(by cases h),fun h=>(by cases h)⟩,l.trans b.out⟩
   case measure=>simp[intOf]
  |1,D=>
   have P:=u.cell (i:=1) rfl;go_wp2_with fail;obtain rfl:d'=d.flushed:=m.out.2.1 (by trivial)
   refine(gQ q f F G H d.flushed i s _ l.at' M.out z.out J.out r.out (by show 0<4096;decide) I.out.1 (by show i<((eT d.bs d.cs d.cs.length).length:Int);rw[dB];exact I.out.2) Z.out).mono ?_
   rintro e U ⟨rfl,O,o⟩;have b:=hid o;clear o;go_wp2_with fail;go_roundw
   case rel=>exact⟨2,_,by omega,rfl,⟨fun h=>(by cases h),fun h=>(by cases h),fun _=>⟨O,rfl⟩,fun h=>(by cases h)⟩,l.trans b.out⟩
   case measure=>simp[intOf]
  |2,D=>
   have P:=u.cell (i:=2) rfl;go_wp2_with fail;obtain⟨cv,rfl⟩:=m.out.2.2.1 (by trivial)
   refine(iC f _ _ l.at' J.out r.out (by show 1≤4096;decide) (by show(eT d.bs d.cs d.cs.length).length≤1024;rw[dB];exact hb) (by
    intro j p hp
    match j,hp with
    |0,hp=>simp at hp;subst hp;exact⟨I.out.1,by show i<((eT d.bs d.cs d.cs.length).length:Int);rw[dB];exact I.out.2⟩
    |j+1,hp=>simp at hp)).mono ?_
   rintro e U ⟨rfl,o⟩;have b:=hid o;clear o;go_wp2_with fail;go_roundw
   case rel=>exact⟨3,_,by omega,rfl,⟨fun h=>(by cases h),fun h=>(by cases h),fun h=>(by cases h),fun _=>rfl⟩,l.trans b.out⟩
   case measure=>simp[intOf]
  |3,D=>
   go_wp2_with fail;go_ret;have he:=m.out.2.2.2 (by trivial);subst he;exact⟨rfl,l.out⟩
theorem Av (n b g c F G H:Nat) (t:TypeId) (d:am) (i:Int) (s:ByteArray) (w:World) (h:aC w b d) (m:ac w g [.func (.func 187) #[] #[.pointer (some ⟨F,0,none⟩), .pointer (some ⟨G,0,none⟩), .pointer (some ⟨H,0,none⟩)], .func (.func 100) #[.pointer (some ⟨b,0,none⟩)] #[]] t) (I:w.cell? ⟨n,1,none⟩=some (.pointer (some ⟨b,0,none⟩))) (C:n<w.heap.size) (bA:fU w n F G H i s)
  (hn:∀x,x=g∨x=n∨x=F∨x=G∨x=H→x∉d.foot b)
  (hd:d.down=false) (hl:d.left=0) (hc:d.cs.length<4096) (hb:d.bs.length≤1024) (B:∀(j:Nat) p,d.cs[j]?=some p→0≤p.1∧p.1<d.bs.length) (T:0≤i) (A:i<d.bs.length) (V:s.size=4096):
  Calls prog 96 #[.pointer (some ⟨n,0,none⟩), .slice (some ⟨g,0,none⟩) 2 c] w fun e w'=>e= .returned (.int .i64 0)∧∃d',d'=(({d with cs:=d.cs++[(i,s)]}:am)).flushed∧bg w w' b d d':=by
 have W:=hid h;have Y:=hid m;have X:=hid I;have O:=hid bA;have u:=hid hn;have L:=hid B;have K:=hid (And.intro T A);have Z:=hid V;have Q:=hid hc;have M:=hid C;have R:=hid hd;have r:=hid hl;clear hd hl;clear h m I bA hn B T A V hc C;go_enter func96,ntmps96;go_wp2_with fail;go_loopw [10] (fun v wr=>∃(k:Nat) (d':am),k≤2∧v= .int .i64 k∧((k=0→d'=d)∧(k=1→(∃cv,d'={d with cv:=cv,cs:=d.cs++[(i,s)]}))∧(k=2→d'=(({d with cs:=d.cs++[(i,s)]}:am)).flushed))∧bg w wr b d d') (fun v _=>2-(intOf v).toNat)
 case atStart=>exact⟨0,d,by omega,rfl,⟨fun _=>rfl,fun h=>(by cases h),fun h=>(by cases h)⟩,bg.refl W.out⟩
 case round=>
  obtain⟨k,d',J,rfl,a,E⟩:=hrel;have l:=hid E;have o:=hid a;clear E a;have U:=l.turned.blk Y.out (u.out g (by simp));have y:=hid U;have N:=hid (show wr.cell? ⟨n,1,none⟩=some (.pointer (some ⟨b,0,none⟩)) by rw[l.turned.cell M.out (u.out n (by simp))];exact X.out);have z:=hid (O.turned l.turned (u.out F (by simp)) (u.out G (by simp)) (u.out H (by simp)));clear U
  match k,J with
  |0,J=>
   have ck:=y.cell (i:=0) rfl;go_wp2_with fail;obtain rfl:d'=d:=o.out.1 (by trivial)
   refine(gQ n b F G H d' i s _ l.at' N.out z.out R.out r.out Q.out K.out.1 K.out.2 Z.out).mono ?_
   rintro e w2 ⟨rfl,P,D⟩;have q:=hid D;clear D;go_wp2_with fail;go_roundw
   case rel=>exact⟨1,_,by omega,rfl,⟨fun h=>(by cases h),fun _=>⟨P,rfl⟩,fun h=>(by cases h)⟩,l.trans q.out⟩
   case measure=>simp[intOf]
  |1,J=>
   have ck:=y.cell (i:=1) rfl;go_wp2_with fail;obtain⟨cv,rfl⟩:=o.out.2.1 (by trivial)
   refine(iC b _ _ l.at' R.out r.out (by show(d.cs++[(i,s)]).length≤4096;rw[List.length_append];exact Q.out) hb (by
    intro j p hp;have f:(d.cs++[(i,s)])[j]?=some p:=hp
    by_cases I:j<d.cs.length
    ·rw[List.getElem?_append_left I]at f;exact L.out j p f
    ·rw[List.getElem?_append_right (by omega)]at f
     obtain⟨h1,S⟩:=List.getElem?_eq_some_iff.1 f;simp at S;subst S;exact K.out)).mono ?_
   rintro e w2 ⟨rfl,D⟩;have q:=hid D;clear D;go_wp2_with fail;go_roundw
   case rel=>exact⟨2,_,by omega,rfl,⟨fun h=>(by cases h),fun h=>(by cases h),fun _=>rfl⟩,l.trans q.out⟩
   case measure=>simp[intOf]
  |2,J=>
   go_wp2_with fail;go_ret;have he:=o.out.2.2 (by trivial);subst he;exact⟨rfl,l.out⟩
def il (g:Nat→UInt8):Nat→UInt8
 |0=>0
 |k+1=>il g k|||g k
theorem Hz (a b:UInt8):a|||b=0↔a=0∧b=0:=by
 constructor
 ·intro h
  have c:=congrArg UInt8.toNat h;rw[UInt8.toNat_or]at c;have d:a.toNat=0∧b.toNat=0:=by simpa using c
  exact⟨UInt8.toNat_inj.1 (by simpa using d.1),UInt8.toNat_inj.1 (by simpa using d.2)⟩
 ·rintro⟨rfl,rfl⟩;rfl
theorem nN (g:Nat→UInt8):∀n,il g n=0↔∀k,k<n→g k=0
 |0=>by simp[il]
 |n+1=>by
  unfold il;rw[Hz,nN g n]
  exact⟨fun⟨h1,h2⟩ k a=>by
   rcases Nat.lt_succ_iff_lt_or_eq.1 a with h|rfl
   ·exact h1 k h
   ·exact h2,fun h=>⟨fun k a=>h k (by omega),h n (by omega)⟩⟩
theorem rX (b:UInt8) (w:World):
  Calls prog 313 #[.int .u8 ((b.toNat:Nat):Int)] w fun e w'=>e= .returned (.int .i64 (if b=0 then 1 else 0))∧w=w':=by
 have c:=b.toNat_lt
 by_cases h:b=0
 ·subst h
  rw[if_pos rfl];go_enter func313,ntmps313;go_wp2_with fail;go_ret;exact⟨rfl,rfl⟩
 ·rw[if_neg h]
  obtain⟨m,d⟩:∃m:Nat,b.toNat=m+1:=⟨b.toNat-1,by
   have:b.toNat≠0:=fun a=>h (UInt8.toNat_inj.1 (by simpa using a))
   omega⟩
  rw[d];go_enter func313,ntmps313;go_wp2_with fail;go_ret;refine⟨?_,rfl⟩;have f:(m:Int)/256=0:=by omega
  show Ending.returned (.int .i64 (bits BinOp.and IntKind.i64 ((m:Int)/256) 1))= _
  rw[f]
  rfl
theorem Aw (n:Nat) (m:Value) (g:Nat→UInt8) (I:World→Prop) (w:World) (s:I w) (hn:n≤1048576)
  (j:∀(k:Nat) (o:World),k<n→I o→Calls prog 315 #[.int .i64 (k:Int),m] o fun e w'=>e= .returned (.int .u8 (((g k).toNat:Nat):Int))∧I w'):
  Calls prog 314 #[.int .i64 n, .func (.func 315) #[] #[m]] w fun e w'=>e= .returned (.int .u8 (((il g n).toNat:Nat):Int))∧I w':=by
 have p:=hid j;clear j;go_enter func314,ntmps314;go_wp2_with fail;go_loopw [5,8] (fun a i wr=>∃k:Nat,k≤n∧a= .int .u8 (((il g k).toNat:Nat):Int)∧i= .int .i64 k∧I wr) (fun _ i _=>n-(intOf i).toNat)
 case atStart=>exact⟨0,by omega,rfl,rfl,s⟩
 case round=>
  obtain⟨k,t,rfl,rfl,b⟩:=hrel
  by_cases h:k<n
  ·have l:(k:Int)<n:=by omega
   go_wp2_with fail
   refine(p.out k _ h b).mono ?_
   rintro e u ⟨rfl,f⟩;have q:=(il g k).toNat_lt;have r:=(g k).toNat_lt;have c:=u8_or_nat (il g k).toNat (g k).toNat (by simpa using q) (by simpa using r);have d:=hid c;clear c;go_wp2_with fail;go_roundw
   case rel=>exact⟨k+1,by omega,by rw[d.out,show il g (k+1)=il g k|||g k from rfl,UInt8.toNat_or],by go_num,f⟩
   case measure=>simp[intOf];omega
  ·obtain rfl:k=n:=by omega
   go_wp2_with fail;go_ret;exact⟨rfl,b⟩
theorem Ax (n:Nat) (m o:Value) (g:Nat→UInt8) (I:World→Prop) (w:World) (t:I w) (hn:n≤1048576)
  (j:∀(k:Nat) (p:World),k<n→I p→Calls prog 329 #[.int .i64 (k:Int),m,o] p fun e w'=>e= .returned (.int .u8 (((g k).toNat:Nat):Int))∧I w'):
  Calls prog 314 #[.int .i64 n, .func (.func 329) #[] #[m,o]] w fun e w'=>e= .returned (.int .u8 (((il g n).toNat:Nat):Int))∧I w':=by
 have q:=hid j;clear j;go_enter func314,ntmps314;go_wp2_with fail;go_loopw [5,8] (fun a i wr=>∃k:Nat,k≤n∧a= .int .u8 (((il g k).toNat:Nat):Int)∧i= .int .i64 k∧I wr) (fun _ i _=>n-(intOf i).toNat)
 case atStart=>exact⟨0,by omega,rfl,rfl,t⟩
 case round=>
  obtain⟨k,u,rfl,rfl,b⟩:=hrel
  by_cases h:k<n
  ·have l:(k:Int)<n:=by omega
   go_wp2_with fail
   refine(q.out k _ h b).mono ?_
   rintro e v ⟨rfl,f⟩;have r:=(il g k).toNat_lt;have s:=(g k).toNat_lt;have c:=u8_or_nat (il g k).toNat (g k).toNat (by simpa using r) (by simpa using s);have d:=hid c;clear c;go_wp2_with fail;go_roundw
   case rel=>exact⟨k+1,by omega,by rw[d.out,show il g (k+1)=il g k|||g k from rfl,UInt8.toNat_or],by go_num,f⟩
   case measure=>simp[intOf];omega
  ·obtain rfl:k=n:=by omega
   go_wp2_with fail;go_ret;exact⟨rfl,b⟩
theorem H9 (s:ByteArray) (b:Nat) (k:Nat) (d:k<s.size) (w:World) (hb:ac w b [.string s] 9):
  Calls prog 315 #[.int .i64 (k:Int), .pointer (some ⟨b,0,none⟩)] w fun e w'=>e= .returned (.int .u8 (((s.data.toList.getD k 0).toNat:Nat):Int))∧w=w':=by
 have f:=hb.cell (i:=0) rfl;have g:(0:Int)≤(k:Int):=by omega
 have h:(k:Int)<s.size:=by omega
 go_enter func315,ntmps315;go_wp2_with fail;go_ret;refine⟨?_,rfl⟩
 have c:s.data.toList.getD k 0=s[k]:=by
  have a:k<s.data.toList.length:=d;rw[List.getD,List.getElem?_eq_getElem a]
  rfl
 rw[c]
 rfl
theorem Ia (a s:ByteArray) (f g:Nat) (k:Nat) (n:k<a.size) (b:k<s.size) (w:World) (l:ac w f [.string a] 9) (hb:ac w g [.string s] 9):
  Calls prog 329 #[.int .i64 (k:Int), .pointer (some ⟨f,0,none⟩), .pointer (some ⟨g,0,none⟩)] w fun e o=>e= .returned (.int .u8 (((a.data.toList.getD k 0^^^s.data.toList.getD k 0).toNat:Nat):Int))∧o=w.drew:=by
 have p:=l.cell (i:=0) rfl;have q:=hb.cell (i:=0) rfl;have r:(0:Int)≤(k:Int):=by omega
 have h:(k:Int)<a.size:=by omega
 have j:(k:Int)<s.size:=by omega
 have c:a.data.toList.getD k 0=a[k]:=by
  have b:k<a.data.toList.length:=n;rw[List.getD,List.getElem?_eq_getElem b]
  rfl
 have d:s.data.toList.getD k 0=s[k]:=by
  have b:k<s.data.toList.length:=b;rw[List.getD,List.getElem?_eq_getElem b]
  rfl
 have m:Hid (bits BinOp.xor IntKind.u8 ((a[k].toNat:Nat):Int) ((s[k].toNat:Nat):Int)=(((a[k]^^^s[k]).toNat:Nat):Int)):=by
  show _= _
  have h:=a[k].toNat_lt;have j:=s[k].toNat_lt;rw[u8_xor_nat _ _ (by simpa using h) (by simpa using j)];simp
 go_enter func329,ntmps329;go_wp2_with fail;refine aB (by kernel_rfl) (by kernel_rfl) ?_
 iterate 8 still_step
 refine wpStill_nil ?_;go_wp2_with fail;go_ret;refine⟨?_,rfl⟩;rw[c,d,←m.out]
 rfl
theorem Jd (s:ByteArray) (w:World) (A:s.size≤1048576):
  Calls prog 304 #[.string s] w fun e w'=>∃q:Int,e= .returned (.int .i64 q)∧(q=0↔∀k,k<s.size→s.data.toList.getD k 0=0)∧(q=0∨q=1)∧Below w.heap.size w w':=by
 have z:∀(u:Fn) (first c:Array Value) (w:World),(Instr.makeFunc u first c).run prog w= .ok (.func u first c) w:=fun _ _ _ _=>rfl
 go_enter func304,ntmps304
 go_wp2_with (first
  |((with_reducible refine aO 9 (.tmp 0) (.string s) rfl (some 1) ?hgd ?ho ?hd ?hx ?_);(case hgd|ho|hd|hx=>rfl);(intro r D B t y F);(have C:=t.cell (i:=0) rfl))
  |fail)
 obtain⟨g,x⟩:∃g:Nat→UInt8,g=fun k=>s.data.toList.getD k 0:=⟨_,rfl⟩
 have d:∀k,s.data.toList.getD k 0=g k:=fun k=>by rw[x]
 have l:=nN g s.size;have o:=hid d;have b:=hid l;clear l d x
 refine(Aw s.size (.pointer (some ⟨r,0,none⟩)) g (fun m=>Below w.heap.size w m∧ac m r [.string s] 9) _ ⟨y.mono B,t⟩ A (fun k m j v=>(H9 s r k j m v.2).mono (by rintro e w' ⟨rfl,rfl⟩;rw[o.out];exact⟨rfl,v⟩))).mono ?_
 rintro e E ⟨rfl,a,_⟩;go_wp2_with fail
 refine(rX _ _).mono ?_
 rintro e w' ⟨rfl,rfl⟩
 by_cases h:il g s.size=0
 ·rw[if_pos h]
  have p:=hid (show ∀k,k<s.size→s.data.toList.getD k 0=0 from fun k j=>by rw[o.out];exact b.out.1 h k j);have n:=hid a;clear h a;go_wp2_with fail;go_ret;exact⟨0,rfl,⟨fun _=>p.out,fun _=>rfl⟩, .inl rfl,n.out⟩
 ·rw[if_neg h]
  have p:=hid (show¬∀k,k<s.size→s.data.toList.getD k 0=0 from fun f=>h (b.out.2 (fun k j=>by rw[←o.out];exact f k j)));have n:=hid a;clear h a;go_wp2_with fail;go_ret;exact⟨1,rfl,⟨fun f=>(by cases f),fun f=>absurd f p.out⟩, .inr rfl,n.out⟩
theorem uH (a b:UInt8):a^^^b=0↔a=b:=by
 constructor
 ·intro h
  have c:=congrArg (·^^^b) h
  simpa[UInt8.xor_assoc]using c
 ·rintro rfl;exact UInt8.toNat_inj.1 (by rw[UInt8.toNat_xor];simp)
theorem Ib {a b:List UInt8} (hl:a.length=b.length):(∀k,k<a.length→a.getD k 0^^^b.getD k 0=0)↔a=b:=by
 constructor
 ·intro h
  refine List.ext_getElem hl (fun k c d=> ?_)
  have:=(uH _ _).1 (h k c)
  simpa[List.getD,List.getElem?_eq_getElem c,List.getElem?_eq_getElem d]using this
 ·rintro rfl k _;exact(uH _ _).2 rfl
theorem Je (a s:ByteArray) (w:World) (T:a.size≤1048576) (hl:a.size=s.size):
  Calls prog 316 #[.string a, .string s] w fun e w'=>∃q:Int,e= .returned (.int .i64 q)∧(q=1↔a=s)∧(q=0∨q=1)∧Below w.heap.size w w':=by
 have R:∀(I:Fn) (first p:Array Value) (w:World),(Instr.makeFunc I first p).run prog w= .ok (.func I first p) w:=fun _ _ _ _=>rfl
 have O:=hid hl;obtain⟨n,hn⟩:∃n,a.size=n:=⟨_,rfl⟩;have S:s.size=n:=by omega
 have E:n≤1048576:=by omega
 clear hl T;go_enter func316,ntmps316
 go_wp2_with (first
  |((with_reducible refine aO 9 (.tmp 0) (.string a) rfl (some 2) ?hgd ?ho ?hd ?hx ?_);(case hgd|ho|hd|hx=>rfl);(intro C W K F Q M);(have U:=F.cell (i:=0) rfl))
  |((with_reducible refine aO 9 (.tmp 1) (.string s) rfl (some 3) ?hgd ?ho ?hd ?hx ?_);(case hgd|ho|hd|hx=>rfl);(intro D X L G H Z);(have o:=F.below H (Nat.lt_of_lt_of_le M L));(have P:=o.cell (i:=0) rfl);(have V:=G.cell (i:=0) rfl))
  |fail)
 have t:=(Q.mono K).trans (H.mono (Nat.le_trans K (Nat.le_of_lt (Nat.lt_of_lt_of_le M L))));obtain⟨g,J⟩:∃g:Nat→UInt8,g=fun k=>a.data.toList.getD k 0^^^s.data.toList.getD k 0:=⟨_,rfl⟩
 have d:∀k,a.data.toList.getD k 0^^^s.data.toList.getD k 0=g k:=fun k=>by rw[J]
 have v:=nN g n;have x:=Ib (a:=a.data.toList) (b:=s.data.toList) O.out;have l:a.data.toList=s.data.toList↔a=s:=⟨fun h=>ByteArray.ext (Array.toList_inj.1 h),fun h=>by rw[h]⟩;have m:a.data.toList.length=n:=hn
 have j:il g n=0↔a=s:=by
  rw[v,←l,←x,m];exact⟨fun h k z=>by rw[d];exact h k z,fun h k z=>by rw[←d];exact h k z⟩
 have N:=hid d;have f:=hid j;clear v d J x l j m
 refine(Ax n (.pointer (some ⟨C,0,none⟩)) (.pointer (some ⟨D,0,none⟩)) g (fun y=>Below w.heap.size w y∧ac y C [.string a] 9∧ac y D [.string s] 9) _ ⟨t,o,G⟩ E (fun k y z r=>(Ia a s C D k (by omega) (by omega) y r.2.1 r.2.2).mono (by rintro e w' ⟨rfl,rfl⟩;rw[N.out];exact⟨rfl,r.1.drew,r.2.1.drew,r.2.2.drew⟩))).mono ?_
 rintro e Y ⟨rfl,c,_⟩;go_wp2_with fail
 refine(rX _ _).mono ?_
 rintro e w' ⟨rfl,rfl⟩
 by_cases h:il g n=0
 ·rw[if_pos h]
  have B:=hid (f.out.1 h);have A:=hid c;clear h c;go_wp2_with fail;go_ret;exact⟨1,rfl,⟨fun _=>B.out,fun _=>rfl⟩, .inr rfl,A.out⟩
 ·rw[if_neg h]
  have B:=hid (show¬a=s from fun u=>h (f.out.2 u));have A:=hid c;clear h c;go_wp2_with fail;go_ret;exact⟨0,rfl,⟨fun u=>(by cases u),fun u=>absurd u B.out⟩, .inl rfl,A.out⟩
theorem EZ (a s:ByteArray) (w:World) (f:a.size≤1048576) (hl:a.size=s.size):
  Calls prog 305 #[.string a, .string s] w fun e w'=>e= .returned (.bool (decide (a=s)))∧Below w.heap.size w w':=by
 go_enter func305,ntmps305;go_wp2_with fail
 refine(Je a s _ f hl).mono ?_
 rintro e g ⟨q,rfl,d,c,hb⟩
 by_cases h:a=s
 ·obtain rfl:q=1:=d.2 h
  have b:=hid (decide_eq_true h);go_wp2_with fail;go_ret;exact⟨by rw[b.out];rfl,hb⟩
 ·obtain rfl:q=0:=by
   rcases c with h1|h1
   ·exact h1
   ·exact absurd (d.1 h1) h
  have b:=hid (decide_eq_false h);clear h;go_wp2_with fail;go_ret;exact⟨by rw[b.out];rfl,hb⟩
end Go.Proofs.YtadooplpfhdhcaaGreat
