/- Walks of receipt.may, Make, Of and the documents' Few, Right, Make, Last (chapters 19, 20, 21). Walks of receipt.Make and the documents' Make (chapter 21). Walks of receipt.Of, Forge, All (chapter 21). Walk of receipt.Forge (chapter 21). -/
import Derived.Test.YtadooplpfhdhcaaGreatQ13
import Derived.Deep.RegionHeld3
import Derived.Deep.RegionWith
import Derived.Deep.MidRow
import Derived.Laws.ResultCell
import Derived.Deep.QuietTactic
import Derived.BigQuiet
import Derived.Test.YtadooplpfhdhcaaGreatQ2
import Derived.Test.YtadooplpfhdhcaaGreatQ17
import Derived.Test.YtadooplpfhdhcaaGreatQ9
import Derived.OrdersHeld
import Derived.Test.YtadooplpfhdhcaaGreatQ7
import Derived.Test.YtadooplpfhdhcaaGreatQ21
import Derived.Test.YtadooplpfhdhcaaGreatQ12
set_option linter.unusedSimpArgs false
set_option linter.unusedVariables false
set_option maxRecDepth 100000
set_option maxHeartbeats 4000000
namespace Go.Proofs.YtadooplpfhdhcaaGreat
open Go Go.RowKit
open Go.Lib (hid)
open Go.Proofs.Tryz
structure bJ where
 seq:Int
 r:Rec
 was:ByteArray
 tag:ByteArray
def bJ.cells (x:bJ):List Value:=[.int .i64 x.seq, .int .i64 x.r.kind, .int .i64 x.r.epoch, .int .i64 x.r.time, .int .i64 x.r.count, .int .i64 x.r.target, .int .i64 x.r.till, .string x.r.root, .string x.r.name, .string x.was, .string x.tag]
def bJ.v (x:bJ):Value:= .agg #[.int .i64 x.seq, .int .i64 x.r.kind, .int .i64 x.r.epoch, .int .i64 x.r.time, .int .i64 x.r.count, .int .i64 x.r.target, .int .i64 x.r.till, .string x.r.root, .string x.r.name, .string x.was, .string x.tag]
def bJ.zero:bJ:=⟨0,Rec.zero,⟨#[]⟩,⟨#[]⟩⟩
def jv (x:bJ):Bool:=decide (0≤x.seq)&&decide (x.seq≤4294967295)&&aI x.r&&decide (x.r.kind=1)&&decide ((x.was.size:Int)=32)&&decide ((x.tag.size:Int)=32)
def bO (l:List aD):ByteArray:=match l.getLast? with|none=>⟨(List.replicate 32 (0:UInt8)).toArray⟩|some x=>x.tag
theorem ah.eqB {p:ByteArray} {l:List UInt8} (h:ah p l):p=⟨l.toArray⟩:=by
 have a:p.data.toList=l:=h;rw[←a]
theorem dE {x:bJ}:(prog.info? 84).map (·.size)=some x.cells.length:=by kernel_rfl
theorem Jn {a b:ByteArray} (h:a=b):Ending.returned (.string a)= .returned (.string b):=by rw[h]
structure eG (w:World) (b:Nat) (x:bJ):Prop where
 lt:b<w.heap.size
 at_:∀(i:Nat) (u:Value),x.cells[i]?=some u→w.cell? ⟨b,i,none⟩=some u
theorem eG.below {w a:World} {b:Nat} {x:bJ} (h:eG w b x) {B:Nat} (hb:Below B w a) (c:b<B):eG a b x:=
 ⟨by have:=hb.size;have:=h.lt;omega,fun i u hu=>by rw[hb.cell (by exact c)];exact h.at_ i u hu⟩
theorem eG.blk {w:World} {b:Nat} {x:bJ} {t:TypeId} (h:ac w b x.cells t):eG w b x:=⟨h.lt,fun i u hu=>h.cell hu⟩
theorem eG.cells_ {w:World} {b:Nat} {x:bJ} (h:eG w b x):
  w.cell? ⟨b,0,none⟩=some (.int .i64 x.seq)∧w.cell? ⟨b,1,none⟩=some (.int .i64 x.r.kind)∧w.cell? ⟨b,2,none⟩=some (.int .i64 x.r.epoch)∧w.cell? ⟨b,3,none⟩=some (.int .i64 x.r.time)∧w.cell? ⟨b,4,none⟩=some (.int .i64 x.r.count)∧
  w.cell? ⟨b,5,none⟩=some (.int .i64 x.r.target)∧w.cell? ⟨b,6,none⟩=some (.int .i64 x.r.till)∧w.cell? ⟨b,7,none⟩=some (.string x.r.root)∧w.cell? ⟨b,8,none⟩=some (.string x.r.name)∧w.cell? ⟨b,9,none⟩=some (.string x.was)∧w.cell? ⟨b,10,none⟩=some (.string x.tag):=
 ⟨h.at_ 0 _ rfl,h.at_ 1 _ rfl,h.at_ 2 _ rfl,h.at_ 3 _ rfl,h.at_ 4 _ rfl,h.at_ 5 _ rfl,h.at_ 6 _ rfl,h.at_ 7 _ rfl,h.at_ 8 _ rfl,h.at_ 9 _ rfl,h.at_ 10 _ rfl⟩
theorem DD (x:bJ) (w:World) (p:x.r.name.size≤1073741824) (K:Fits x.r.epoch) (H:Fits x.seq):
  Calls prog 179 #[x.v] w fun e w'=>e= .returned (.bool (jv x))∧Below w.heap.size w w':=by
 by_cases A:0≤x.seq∧x.seq≤4294967295
 ·have s:=hid A;clear A
  go_enter func179,ntmps179;go_wp2_with ((with_reducible refine ae 84 (.tmp 0) x.cells (some 1) ?hgd ?ho ?hd ?hx ?_);(case hgd|ho|hd|hx=>rfl);(intro b w0 F B y G;have t:=hid (eG.blk B);obtain⟨d,f,g,h,i,j,k,l,m,n,o⟩:=t.out.cells_));clear d f g h i j k l m n o
  refine(jR x.seq _ H).mono ?_
  rintro e L ⟨D,a⟩;obtain⟨q,rfl,M⟩:=D.yes s.out;have u:=hid (t.below a G);obtain⟨d,f,g,h,i,j,k,l,m,n,o⟩:=u.cells_;go_wp2_with fail;clear d f g h i j k l m n o
  refine(iW x.r _ p K).mono ?_
  rintro e N ⟨rfl,z⟩;have J:=hid (u.below z u.lt);obtain⟨d,f,g,h,i,j,k,l,m,n,o⟩:=J.cells_;have c:=(y.mono F).trans ((bt a z).mono (by have:=y.size;omega))
  cases hok:aI x.r with
  |true=>
   rw[me hok];have C:=hid hok;clear hok;go_wp2_with fail
   all_goals(go_ret;refine⟨dX ?_,c⟩;have I:=s.out;have E:=C.out;simp only[jv,E,Bool.and_true];first|(simp[*];done)|(simp[*];intros;omega)|(rw[Bool.eq_iff_iff];simp;omega))
  |false=>
   rw[qM hok];have C:=hid hok;clear hok;go_wp2_with fail
   all_goals(go_ret;refine⟨dX ?_,c⟩;have E:=C.out;simp only[jv,E,Bool.and_false,Bool.false_and])
 ·have s:=hid A;clear A
  go_enter func179,ntmps179;go_wp2_with ((with_reducible refine ae 84 (.tmp 0) x.cells (some 1) ?hgd ?ho ?hd ?hx ?_);(case hgd|ho|hd|hx=>rfl);(intro b w0 F B y G;have t:=hid (eG.blk B);obtain⟨d,f,g,h,i,j,k,l,m,n,o⟩:=t.out.cells_));clear d f g h i j k l m n o
  refine(jR x.seq _ H).mono ?_
  rintro e L ⟨D,a⟩;obtain rfl:=D.no s.out;have u:=hid (t.below a G);obtain⟨d,f,g,h,i,j,k,l,m,n,o⟩:=u.cells_;have c:=(y.mono F).trans (a.mono (by have:=y.size;omega));go_wp2_with fail
  all_goals(go_ret;refine⟨dX ?_,c⟩;have I:=s.out;simp only[jv,←Bool.decide_and,I];simp)
theorem oM (v:Value) (l:List aD) (w:World) (h:dG w v l) (hl:l.length≤1048576):
  Calls prog 171 #[v] w fun e w'=>e= .returned (.string (bO l))∧Below w.heap.size w w':=by
 by_cases d:l=[]
 ·subst d
  obtain⟨a,c,rfl⟩:=h.shape;clear h;go_enter func171,ntmps171;go_wp2_with fail
  refine(Dh _).mono ?_
  rintro e y ⟨p,rfl,m,f⟩;go_wp2_with fail;go_ret;exact⟨Jn (m.eqB),f⟩
 ·rcases h with⟨rfl,_⟩|⟨g,o,c,rfl,hcap,hg,hat⟩
  ·exact absurd rfl d
  obtain⟨n,hn⟩:∃n,n=l.length:=⟨_,rfl⟩;have j:0<n:=by rw[hn];exact List.length_pos_iff.2 d
  obtain⟨x,i⟩:∃x,l[n-1]?=some x:=⟨_,List.getElem?_eq_getElem (by omega)⟩;have q:w.cell? ⟨g,o+(n-1)*9+8,none⟩=some (.string x.tag):=hat _ x i 8 _ rfl
  have b:bO l=x.tag:=by
   unfold bO;rw[List.getLast?_eq_getElem?,←hn,i]
  have k:=hid b;have r:(0:Int)≤(n:Int)-1:=by omega
  have s:(n:Int)-1<n:=by omega
  have t:¬((n:Int)=0):=by omega
  have u:(n:Int)≤1048576:=by omega
  clear hat i d b;rw[←hn];rw[←hn]at hcap;clear hn hl;go_enter func171,ntmps171;go_wp2_with fail;go_ret;exact⟨Jn k.symm,Below.refl _ _⟩
def fM (l:List aD) (k:Nat) (x:aD):bJ:=⟨(k:Int),x.r,bO (l.take k),x.tag⟩
def iz (l:List aD) (i:Int):Option aD:=if 0≤i then(l[i.toNat]?).filter (fun x=>decide (x.r.kind=1))else none
def ic (l:List aD) (i:Int):bJ×Int:=
 match iz l i with
 |none=>(bJ.zero,7)
 |some x=>if jv (fM l i.toNat x)then(fM l i.toNat x,0)else(bJ.zero,2)
theorem tO {l:List aD} {i:Int} (h:iz l i=none):ic l i=(bJ.zero,7):=by unfold ic;rw[h]
theorem Bt {l:List aD} {i:Int} (h:¬(0≤i∧i<l.length)):iz l i=none:=by
 unfold iz
 split
 ·rw[List.getElem?_eq_none (by omega)];rfl
 ·rfl
theorem tP {l:List aD} {k:Nat} {x:aD} (h:l[k]?=some x):iz l k=if x.r.kind=1 then some x else none:=by
 unfold iz;rw[if_pos (by omega),Int.toNat_natCast,h]
 by_cases a:x.r.kind=1
 ·rw[if_pos a];simp[Option.filter,a]
 ·rw[if_neg a];simp[Option.filter,a]
theorem Iy {l:List aD} {k:Nat} {x:aD} (h:l[k]?=some x) (a:x.r.kind=1):ic l k=if jv (fM l k x)then(fM l k x,0)else(bJ.zero,2):=by
 unfold ic;rw[tP h,if_pos a]
 rfl
def jJ (l:List aD):Prop:=∀(j:Nat) (x:aD),l[j]?=some x→x.r.name.size≤1048576∧x.r.root.size≤1048576∧x.tag.size≤1048576∧Fits x.r.epoch
theorem jK (w:World):Sem.run prog (zeroValue 84) w= .ok (.agg bJ.zero.cells.toArray) w:=by kernel_rfl
theorem bJ.cells_one (x:bJ):∀v∈x.cells,v.oneCell'=true:=by intro v a;simp[bJ.cells]at a;rcases a with rfl|rfl|rfl|rfl|rfl|rfl|rfl|rfl|rfl|rfl|rfl<;>rfl
theorem Lr {w:World} {b:Nat} {a:List Value} {t:TypeId} {d e f g i j k l m n c:Value} (h:ac w b a t) (hl:a.length=11):
  ac (((((((((((w.setCell ⟨b,0,none⟩ d).setCell ⟨b,1,none⟩ e).setCell ⟨b,2,none⟩ f).setCell ⟨b,3,none⟩ g).setCell ⟨b,4,none⟩ i).setCell ⟨b,5,none⟩ j).setCell ⟨b,6,none⟩ k).setCell ⟨b,7,none⟩ l).setCell ⟨b,8,none⟩ m).setCell ⟨b,9,none⟩ n).setCell ⟨b,10,none⟩ c) b [d,e,f,g,i,j,k,l,m,n,c] t:=
 (((((((((((h.set 0 d).set 1 e).set 2 f).set 3 g).set 4 i).set 5 j).set 6 k).set 7 l).set 8 m).set 9 n).set 10 c).ext (by
   match a,hl with
   |[_,_,_,_,_,_,_,_,_,_,_],_=>rfl)
theorem JQ {B:Nat} {a w:World} {b:Nat} {d e f g i j k l m n c:Value} (h:Below B a w) (o:B≤b):Below B a (((((((((((w.setCell ⟨b,0,none⟩ d).setCell ⟨b,1,none⟩ e).setCell ⟨b,2,none⟩ f).setCell ⟨b,3,none⟩ g).setCell ⟨b,4,none⟩ i).setCell ⟨b,5,none⟩ j).setCell ⟨b,6,none⟩ k).setCell ⟨b,7,none⟩ l).setCell ⟨b,8,none⟩ m).setCell ⟨b,9,none⟩ n).setCell ⟨b,10,none⟩ c):=
 ((((((((((((de.refl b w).setCell 0 d).setCell 1 e).setCell 2 f).setCell 3 g).setCell 4 i).setCell 5 j).setCell 6 k).setCell 7 l).setCell 8 m).setCell 9 n).setCell 10 c).below h o
theorem zp {l:List aD} {k:Nat} {x:aD} (a:x.r.kind=1):[.int .i64 (k:Int), .int .i64 1, .int .i64 x.r.epoch, .int .i64 x.r.time, .int .i64 x.r.count, .int .i64 x.r.target, .int .i64 x.r.till, .string x.r.root, .string x.r.name, .string (bO (l.take k)), .string x.tag]=(fM l k x).cells:=by
 show _=[Value.int .i64 (k:Int), .int .i64 x.r.kind, .int .i64 x.r.epoch, .int .i64 x.r.time, .int .i64 x.r.count, .int .i64 x.r.target, .int .i64 x.r.till, .string x.r.root, .string x.r.name, .string (bO (l.take k)), .string x.tag]
 rw[a]
theorem KQ (w:World) {l:List aD} {k:Nat} {x:aD} (a:x.r.kind=1):eG (w.alloc (Obj.cells #[.int .i64 (k:Int), .int .i64 1, .int .i64 x.r.epoch, .int .i64 x.r.time, .int .i64 x.r.count, .int .i64 x.r.target, .int .i64 x.r.till, .string x.r.root, .string x.r.name, .string (bO (l.take k)), .string x.tag] 84)) w.heap.size (fM l k x):=
 eG.blk (t:=84) ((ac.new w [.int .i64 (k:Int), .int .i64 1, .int .i64 x.r.epoch, .int .i64 x.r.time, .int .i64 x.r.count, .int .i64 x.r.target, .int .i64 x.r.till, .string x.r.root, .string x.r.name, .string (bO (l.take k)), .string x.tag] 84).ext (zp a))
theorem KR {w:World} {b:Nat} {l:List aD} {k:Nat} {x:aD} (a:x.r.kind=1) (h:ac w b bJ.zero.cells 84):eG (((((((((((w.setCell ⟨b,0,none⟩ (.int .i64 (k:Int))).setCell ⟨b,1,none⟩ (.int .i64 1)).setCell ⟨b,2,none⟩ (.int .i64 x.r.epoch)).setCell ⟨b,3,none⟩ (.int .i64 x.r.time)).setCell ⟨b,4,none⟩ (.int .i64 x.r.count)).setCell ⟨b,5,none⟩ (.int .i64 x.r.target)).setCell ⟨b,6,none⟩ (.int .i64 x.r.till)).setCell ⟨b,7,none⟩ (.string x.r.root)).setCell ⟨b,8,none⟩ (.string x.r.name)).setCell ⟨b,9,none⟩ (.string (bO (l.take k)))).setCell ⟨b,10,none⟩ (.string x.tag)) b (fM l k x):=
 eG.blk (t:=84) ((Lr h rfl).ext (zp a))
theorem ft {c:Func} {p u:Tmp} (h:c.results=#[.cell p 84, .tmp u]) (a:Array Value) (w:World) {b:Nat} {x:bJ} (hb:eG w b x) (hp:a.getD p undef= .pointer (some ⟨b,0,none⟩)):
  (results c a).run prog w= .ok (.tuple #[x.v,a.getD u undef]) w:=by
 rw[results_cell_tmp h,hp];have e:=run_loadVar_mid (P:=prog) w b 0 84 x.cells _ (fun i u hu=>by rw[Nat.zero_add];exact hb.at_ i u hu) underlying84 rfl dE;simp only[asAddr,Sem.run_pure,Result.andThen_ok,e]
 rfl
def qU (l:List aD) (i:Int) (e:Ending):Prop:=e= .returned (.tuple #[(ic l i).1.v, .int .i64 (ic l i).2])
theorem wI (v:Value) (l:List aD) (i:Int) (w:World) (h:dG w v l) (hl:l.length≤1048576) (N:jJ l):
  Calls prog 87 #[v, .int .i64 i] w fun e w'=>qU l i e∧Below w.heap.size w w':=by
 unfold qU
 by_cases D:0≤i∧i<l.length
 rotate_left
 ·rw[tO (Bt D)]
  obtain⟨p,c,rfl⟩:=h.shape;obtain⟨n,hn⟩:∃n,n=l.length:=⟨_,rfl⟩;rw[←hn];rw[←hn]at D;clear h N hn hl
  by_cases b1:i<0
  ·go_enter func87,ntmps87
   go_wp2_with (first|((with_reducible refine ab 84 bJ.zero.cells jK (some 4) ?hgd ?ho ?hd ?_);(case hgd|ho|hd=>rfl);(intro y d f q t P))|((with_reducible refine aa 84 (.tmp 4) (.tmp 24) y bJ.zero.cells bJ.zero.cells 84 q rfl dE (bJ.cells_one _) ?hgd ?ho ?hx ?hy ?_);(case hgd|ho|hx|hy=>rfl);(intro O s u)))
   (try simp only[Exit.inBlock,Exit.then]);refine bodyPost_ret (ft rfl _ _ (eG.blk s) rfl) rfl ⟨rfl,u.below (t.mono f) f⟩
  ·have h1:0≤i:=by omega
   have h2:(n:Int)≤i:=by omega
   go_enter func87,ntmps87;go_wp2_with (first|((with_reducible refine ab 84 bJ.zero.cells jK (some 4) ?hgd ?ho ?hd ?_);(case hgd|ho|hd=>rfl);(intro y d f q t P))|((with_reducible refine aa 84 (.tmp 4) (.tmp 24) y bJ.zero.cells bJ.zero.cells 84 q rfl dE (bJ.cells_one _) ?hgd ?ho ?hx ?hy ?_);(case hgd|ho|hx|hy=>rfl);(intro O s u)))
   (try simp only[Exit.inBlock,Exit.then]);refine bodyPost_ret (ft rfl _ _ (eG.blk s) rfl) rfl ⟨rfl,u.below (t.mono f) f⟩
 ·rcases h with⟨rfl,_⟩|⟨g,o,c,rfl,hcap,hg,hat⟩
  ·simp at D;omega
  obtain⟨k,rfl⟩:∃k:Nat,i=(k:Int):=⟨i.toNat,by omega⟩;have E:k<l.length:=by omega
  obtain⟨x,hx⟩:∃x,l[k]?=some x:=⟨_,List.getElem?_eq_getElem E⟩;obtain⟨n,hn⟩:∃n,n=l.length:=⟨_,rfl⟩;have R:Hid (lB w g o n c l):=hid ⟨hn,by omega,hg,hat⟩;have A:dG w (.slice (some ⟨g,o,none⟩) n c) l:=R.row;have HT:=hid (N k x hx);have cb:(0:Int)≤(k:Int):=by omega
  have cf:(k:Int)<n:=by omega
  have ce:(k:Int)≤c:=by omega
  have z:k≤n:=by omega
  have cg:¬n≤k:=by omega
  have F:(l.take k).length≤1048576:=by rw[List.length_take];omega
  have T:=hid F;have S:Hid ((k:Int)≤1048576):=hid (by omega);rw[←hn];have HX:=hid hx
  by_cases K:x.r.kind=1
  rotate_left
  ·have cc:(x.r.kind !=1)=true:=by simpa using K
   have j:ic l (k:Int)=(bJ.zero,7):=tO (by rw[tP hx,if_neg K]);rw[j];clear j hx hat E hl hn N A F;go_enter func87,ntmps87;go_wp2_with (first|((with_reducible refine ab 84 bJ.zero.cells jK (some 4) ?hgd ?ho ?hd ?_);(case hgd|ho|hd=>rfl);(intro y d f q t P);(have b:=hid (R.out.below t f));(obtain⟨c0,c1,c2,c3,c4,c5,c6,c7,c8⟩:=vR (b.out.at_ k x HX.out)))|((with_reducible refine aa 84 (.tmp 4) (.tmp 24) y bJ.zero.cells bJ.zero.cells 84 q rfl dE (bJ.cells_one _) ?hgd ?ho ?hx ?hy ?_);(case hgd|ho|hx|hy=>rfl);(intro O s u)))
   (try simp only[Exit.inBlock,Exit.then]);refine bodyPost_ret (ft rfl _ _ (eG.blk s) rfl) rfl ⟨rfl,u.below (t.mono f) f⟩
  ·have j:=Iy hx K
   have G:=hid j;clear j hx hat E hl hn N A F;go_enter func87,ntmps87;go_wp2_with ((with_reducible refine ab 84 bJ.zero.cells jK (some 4) ?hgd ?ho ?hd ?_);(case hgd|ho|hd=>rfl);(intro y d f q t P);(have b:=hid (R.out.below t f));(obtain⟨c0,c1,c2,c3,c4,c5,c6,c7,c8⟩:=vR (b.out.at_ k x HX.out)));have b7:¬g=d.heap.size:=by have:=b.lt;omega
   have b8:¬d.heap.size=g:=by omega
   have be:g<d.heap.size:=b.lt;go_cut [6]from 25 to 41 (fun v6 wc=>∃M,v6= .pointer (some ⟨M,0,none⟩)∧eG wc M (fM l k x)∧d.heap.size≤M∧Below d.heap.size d wc)
   case first=>
    go_region_held3 (fun w'=>w'.cell? ⟨g,o+k*9,none⟩=some (.int .i64 x.r.kind)∧w'.cell? ⟨g,o+k*9+1,none⟩=some (.int .i64 x.r.epoch)∧w'.cell? ⟨g,o+k*9+2,none⟩=some (.int .i64 x.r.time)∧w'.cell? ⟨g,o+k*9+3,none⟩=some (.int .i64 x.r.count)∧w'.cell? ⟨g,o+k*9+4,none⟩=some (.int .i64 x.r.target)∧w'.cell? ⟨g,o+k*9+5,none⟩=some (.int .i64 x.r.till)∧w'.cell? ⟨g,o+k*9+6,none⟩=some (.string x.r.root)∧w'.cell? ⟨g,o+k*9+7,none⟩=some (.string x.r.name)∧w'.cell? ⟨g,o+k*9+8,none⟩=some (.string x.tag)) (go_keep) ((first|(go_at_call_of 171 (Value.slice (some ⟨g,o,none⟩) k c);refine(oM _ (l.take k) _ (by first|exact(b.below (Below.refl _ _).drew (Nat.le_refl _)).take z|exact(b.below ((Below.refl _ _).drew.alloc (Nat.le_refl _) _) (Nat.le_refl _)).take z) T.out).mono ?_;rintro e L ⟨rfl,a⟩;have d0:=a.cell (p:=⟨g,o+k*9,none⟩) (by have:=b.lt;first|exact this|exact Nat.lt_of_lt_of_le this (by simp));have d1:=a.cell (p:=⟨g,o+k*9+1,none⟩) (by have:=b.lt;first|exact this|exact Nat.lt_of_lt_of_le this (by simp));have d2:=a.cell (p:=⟨g,o+k*9+2,none⟩) (by have:=b.lt;first|exact this|exact Nat.lt_of_lt_of_le this (by simp));have d3:=a.cell (p:=⟨g,o+k*9+3,none⟩) (by have:=b.lt;first|exact this|exact Nat.lt_of_lt_of_le this (by simp));have d4:=a.cell (p:=⟨g,o+k*9+4,none⟩) (by have:=b.lt;first|exact this|exact Nat.lt_of_lt_of_le this (by simp));have d5:=a.cell (p:=⟨g,o+k*9+5,none⟩) (by have:=b.lt;first|exact this|exact Nat.lt_of_lt_of_le this (by simp));have d6:=a.cell (p:=⟨g,o+k*9+6,none⟩) (by have:=b.lt;first|exact this|exact Nat.lt_of_lt_of_le this (by simp));have d7:=a.cell (p:=⟨g,o+k*9+7,none⟩) (by have:=b.lt;first|exact this|exact Nat.lt_of_lt_of_le this (by simp));have d8:=a.cell (p:=⟨g,o+k*9+8,none⟩) (by have:=b.lt;first|exact this|exact Nat.lt_of_lt_of_le this (by simp));have m:d.heap.size≤L.heap.size:=(by have hq:=a.size;first|exact hq|exact Nat.le_trans (by simp) hq);have J:g<L.heap.size:=Nat.lt_of_lt_of_le be m;have b9:¬g=L.heap.size:=Nat.ne_of_lt J;have ca:¬L.heap.size=g:=Nat.ne_of_gt J;have hz:=fun(i:Nat) (h:d.heap.size<_)=>a.cell (p:=⟨d.heap.size,i,none⟩) h;have hf:=fun(i:Nat) (h:d.heap.size<_)=>a.frozen (p:=⟨d.heap.size,i,none⟩) h;have ci:=fun(h:d.heap.size<_)=>Nat.lt_of_lt_of_le h a.size;have ck:=fun(h:d.heap.size<_)=>Nat.ne_of_lt (Nat.lt_of_lt_of_le h a.size))|fail))
    all_goals go_wp2_with fail
    all_goals go_meet
    ·exact⟨_,rfl,KQ L K,m,((Below.refl d.heap.size d).drew.trans a).alloc m _⟩
    ·exact⟨_,rfl,KR K ((ac.new d.drew bJ.zero.cells 84).below a (by simp)),Nat.le_refl _,JQ (((Below.refl d.heap.size d).drew.alloc (Nat.le_refl _) _).trans (a.mono (by simp))) (Nat.le_refl _)⟩
   case rest=>
    clear c0 c1 c2 c3 c4 c5 c6 c7 c8;obtain⟨M,rfl,H,b5,C⟩:=hcut;have Q:=q.below C P;have H:=hid H;obtain⟨U,V,W,X,Y,Z,a6,a7,a8,a9,aA⟩:=H.cells_;go_wp2_with fail;clear U V W X Y Z a6 a7 a8 a9 aA;have m:=C.size
    refine(DD (fM l k x) _ (by have:=HT.out.1;show x.r.name.size≤_;omega) HT.out.2.2.2 (by show Fits (k:Int);have:=S.out;unfold Fits;omega)).mono ?_
    rintro e w7 ⟨rfl,B⟩;have q:=Q.below B (by omega);have R7:=hid (H.below B H.lt);obtain⟨U,V,W,X,Y,Z,a6,a7,a8,a9,aA⟩:=R7.cells_;have I:Below w.heap.size w w7:=(t.mono f).trans ((C.trans (B.mono m)).mono (by omega))
    cases hok:jv (fM l k x)with
    |true=>
     have j:=G.out;rw[hok]at j;have G:=hid j;clear j hok;go_wp2_with ((with_reducible refine aa 84 (.tmp 4) (.tmp 45) y bJ.zero.cells (fM l k x).cells 84 q rfl dE (bJ.cells_one _) ?hgd ?ho ?hx ?hy ?_);(case hgd|ho|hx|hy=>rfl);(intro O s u))
     (try simp only[Exit.inBlock,Exit.then]);refine bodyPost_ret (ft rfl _ _ (eG.blk s) rfl) rfl ⟨by rw[G.out];rfl,u.below I f⟩
    |false=>
     have j:=G.out;rw[hok]at j;have G:=hid j;clear j hok U V W X Y Z a6 a7 a8 a9 aA;go_wp2_with ((with_reducible refine aa 84 (.tmp 4) (.tmp 44) y bJ.zero.cells bJ.zero.cells 84 q rfl dE (bJ.cells_one _) ?hgd ?ho ?hx ?hy ?_);(case hgd|ho|hx|hy=>rfl);(intro O s u))
     (try simp only[Exit.inBlock,Exit.then]);refine bodyPost_ret (ft rfl _ _ (eG.blk s) rfl) rfl ⟨by rw[G.out];rfl,u.below I f⟩
deriving instance DecidableEq for Rec
deriving instance DecidableEq for bJ
theorem lH {a b:ByteArray} (h:a.toList=b.toList):a=b:=by
 have c:=(ah.self a).toList;have d:=(ah.self b).toList;rw[h,d]at c;obtain⟨⟨a⟩⟩:=a;obtain⟨⟨b⟩⟩:=b
 simpa using c.symm
theorem bJ.same {x y:bJ} (m:y.seq=x.seq) (n:y.r.kind=x.r.kind) (o:y.r.epoch=x.r.epoch) (p:y.r.time=x.r.time) (q:y.r.count=x.r.count) (t:y.r.target=x.r.target) (u:y.r.till=x.r.till)
  (v:y.r.root.toList=x.r.root.toList) (w:y.r.name.toList=x.r.name.toList) (k:y.was.toList=x.was.toList) (l:y.tag.toList=x.tag.toList):y=x:=by
 obtain⟨s,⟨a,b,c,d,e,f,g,h⟩,i,j⟩:=x;obtain⟨I,⟨z,b',A,B,C,D,E,F⟩,G,H⟩:=y;simp only at m n o p q t u v w k l;obtain rfl:=lH v;obtain rfl:=lH w;obtain rfl:=lH k;obtain rfl:=lH l;subst m n o p q t u
 rfl
deriving instance DecidableEq for aD
def tQ (x y:Rec):Bool:=decide (x=y)
def tR (x y:aD):Bool:=decide (x=y)
theorem KT (k ep p j o q:Int) (n m:ByteArray) (l b h a g i:Int) (f c:ByteArray) (d:Nat) (w:World):
  (Op.equalIn (d+2) 59 (.agg #[.int .i64 k, .int .i64 ep, .int .i64 p, .int .i64 j, .int .i64 o, .int .i64 q, .string n, .string m]) (.agg #[.int .i64 l, .int .i64 b, .int .i64 h, .int .i64 a, .int .i64 g, .int .i64 i, .string f, .string c])).run prog w= .ok (tQ ⟨k,ep,p,j,o,q,n,m⟩ ⟨l,b,h,a,g,i,f,c⟩) w:=by
 have e:tQ ⟨k,ep,p,j,o,q,n,m⟩ ⟨l,b,h,a,g,i,f,c⟩=(k==l&&(ep==b&&(p==h&&(j==a&&(o==g&&(q==i&&(decide (n=f)&&(decide (m=c)&&true)))))))):=by
  unfold tQ;rw[Bool.eq_iff_iff];simp
 rw[e];refine kY (d:=d+1) underlying59 (by kernel_rfl) ?_;refine gj (k:= .i64) (by decide) (by kernel_rfl) (by kernel_rfl) underlying3 ?_;refine gj (k:= .i64) (by decide) (by kernel_rfl) (by kernel_rfl) underlying3 ?_;refine gj (k:= .i64) (by decide) (by kernel_rfl) (by kernel_rfl) underlying3 ?_;refine gj (k:= .i64) (by decide) (by kernel_rfl) (by kernel_rfl) underlying3 ?_;refine gj (k:= .i64) (by decide) (by kernel_rfl) (by kernel_rfl) underlying3 ?_;refine gj (k:= .i64) (by decide) (by kernel_rfl) (by kernel_rfl) underlying3 ?_;refine qS (by decide) (by kernel_rfl) (by kernel_rfl) underlying9 ?_;refine qS (by decide) (by kernel_rfl) (by kernel_rfl) underlying9 ?_;exact nV
theorem KU (k ep q l p r:Int) (o n s:ByteArray) (m b h a g i:Int) (f c j:ByteArray) (w:World):
  (Op.equalIn 10000 61 (.agg #[.int .i64 k, .int .i64 ep, .int .i64 q, .int .i64 l, .int .i64 p, .int .i64 r, .string o, .string n, .string s]) (.agg #[.int .i64 m, .int .i64 b, .int .i64 h, .int .i64 a, .int .i64 g, .int .i64 i, .string f, .string c, .string j])).run prog w= .ok (tR ⟨⟨k,ep,q,l,p,r,o,n⟩,s⟩ ⟨⟨m,b,h,a,g,i,f,c⟩,j⟩) w:=by
 have e:tR ⟨⟨k,ep,q,l,p,r,o,n⟩,s⟩ ⟨⟨m,b,h,a,g,i,f,c⟩,j⟩=(tQ ⟨k,ep,q,l,p,r,o,n⟩ ⟨m,b,h,a,g,i,f,c⟩&&(decide (s=j)&&true)):=by
  unfold tR tQ;rw[Bool.eq_iff_iff];simp
 rw[e];refine kY (d:=9999) underlying61 (by kernel_rfl) ?_;refine CO (by decide) (by kernel_rfl) (by kernel_rfl) (KT k ep q l p r o n m b h a g i f c 9997 w) ?_;refine qS (d:=9998) (by decide) (by kernel_rfl) (by kernel_rfl) underlying9 ?_;exact nV
open Go.ChangeShapes Go.WideShapes Go.Deep
structure L8 (x:bJ):Prop where
 seq:Fits x.seq
 r:CG x.r
section
variable {H:Type} {enc:TypeId×Value→H} {w:World} {base:Nat} {spare:Nat→Bool} {held:Bool}
end
section
variable {P:Program} {o:Oper} {a:Act} {w:World} {K:Act→World→Prop} {Q:Exit→Act→World→Prop}
theorem j7 (f c e:TypeId) (x:Operand) (l:List UInt8) (b off d g:Nat)
  (p:P.underlying f=some (.slice e)) (k:P.underlying e=some (.int .u8)) (hd:P.underlying c=some .string)
  (n:w.rangeAt b off (bytesV l)) (hl:d=l.length) (v:Value) (i:str l=v)
  (m:o.op= .convert f c x) (q:a.eval x= .slice (some ⟨b,off,none⟩) d g)
  (h:K (a.put o.dst v) w):o.wp P a w K Q:=by
 subst i;unfold Oper.wp execOp;simp only[m,q,Sem.run_bind];rw[run_convert_bytes_string w f c e _ _ _ p k hd,mt w _ l d g hl (fun j v i=>by rw[Addr.add_mid];exact n j v i)];exact h
end
theorem hold_walk (s:ByteArray) (w:World) (L:1≤s.size) (I:s.size≤4000):
  Calls prog 173 #[.string s] w fun e w'=>(∃z,e= .returned (.tuple #[.string z, .int .i64 0])∧ah z (holdL s.data.toList))∧Below w.heap.size w w':=by
 have M:(s.toList==([]:List UInt8))=false:=by
  rw[beq_eq_false_iff_ne];intro e;have O:s.data.toList.length=0:=by rw[←Lib.toList_data,e];rfl
  have N:s.data.toList.length=s.size:=rfl;omega
 have P:(s.size:Int)≤4000:=by omega
 have B:=hid I;clear I L;go_enter func173,ntmps173;go_upto_region 3 with fail;clear M;refine wp_region_held_drew (S:=fun Q=>True) (by kernel_rfl) (trivial) (fun b=> ?_);obtain⟨A,C⟩:∃A,A=w.drew:=⟨_,rfl⟩;have j:Hid (Below w.heap.size w A):=hid (by rw[C];exact(Below.refl _ _).drew);rw[←C]
 (try rw[←C]at b)
 clear C;refine hp 2 ?_;refine wpAnyH_ready (rs:=[0,3]) (by kernel_rfl) (by simp) ?_;refine AllReadyH.cons rfl (fun K d=> ?_) (AllReadyH.cons rfl (fun K d=> ?_) AllReadyH.nil)
 ·go_simp
  obtain⟨wa,l⟩:∃H,H=A.alloc (Obj.cells #[.int .u8 3] 5):=⟨_,rfl⟩;rw[←l];have x:Below A.heap.size A wa:=by rw[l];exact(Below.refl _ _).alloc (Nat.le_refl _) _
  have F:ac wa A.heap.size (bytesV [3]) 5:=by rw[l];exact ac.new A _ _
  have n:=hid F;have f:=hid (j.trans (x.mono j.size));clear x F l
  (try go_wp2_with fail)
  refine d.out _ _ (trivial) (fun a=> ?_);clear d K b;have b:=a;clear a
  (try go_frame)
  refine wpAnyH_ready (rs:=[1,3]) (by kernel_rfl) (by simp) ?_;refine AllReadyH.cons rfl (fun K d=> ?_) (AllReadyH.cons rfl (fun K d=> ?_) AllReadyH.nil)
  ·refine j7 147 9 5 (.tmp 11) [3] A.heap.size 0 1 1 underlying147 underlying5 underlying9 n.range rfl (.string ⟨#[3]⟩) rfl rfl rfl ?_
   refine d.out _ _ (trivial) (fun a=> ?_);clear d K b;have b:=a;clear a
   (try go_frame)
   refine wpAnyH_ready (rs:=[3]) (by kernel_rfl) (by simp) ?_;refine AllReadyH.cons rfl (fun K d=> ?_) AllReadyH.nil;go_simp
   refine(eY s _ (by have:=B.out;omega)).mono ?_
   rintro e E ⟨t,rfl,y,k⟩;have u:=hid y;have c:=hid (f.trans (k.mono f.size));have h:t.size=4+s.size:=by rw[y.size,ch];rfl
   have o:=hid h
   skip
   clear y k h
   (try go_wp2_with fail)
   refine d.out _ _ (trivial) (fun a=> ?_);clear d K b;have b:=a;clear a
   (try go_frame)
   have h:¬9223372036854775807<1+t.size:=by have:=o.out;have:=B.out;omega
   refine hp 4 ?_;obtain⟨i,g⟩:∃i:ByteArray,i=ByteArray.mk #[3]++t:=⟨_,rfl⟩;rw[←g];have q:=hid (show i.size=1+t.size by rw[g,ByteArray.size_append];rfl);have r:=hid (show ah i ([3]++cq s.data.toList) by rw[g];exact(show ah (ByteArray.mk #[3]) [3]from rfl).append u.out);clear g;refine wpAnyH_ready (rs:=[5]) (by kernel_rfl) (by simp) ?_;refine AllReadyH.cons rfl (fun K d=> ?_) AllReadyH.nil;go_simp
   refine(fV i 4096 _ (by have:=q.out;have:=o.out;have:=B.out;omega) (by decide)).mono ?_
   rintro e J ⟨z,rfl,D,p⟩;have m:=hid (c.trans (p.mono c.size));have v:=hid (show ah z (holdL s.data.toList)from D.cast (by unfold holdL;rw[show i.data.toList= _ from r.out]));clear D p h
   (try go_wp2_with fail)
   refine d.out _ _ (trivial) (fun a=> ?_);clear d K b;have b:=a;clear a
   (try go_frame)
   refine hp 6 ?_;refine hp 7 ?_;refine hp 8 ?_;refine hp 9 ?_;refine wpAnyH_done (by kernel_rfl) ?_ _;clear b;go_wp2_with fail;go_ret2;exact⟨⟨z,rfl,v.out⟩,m.out⟩
  ·go_simp
   refine(eY s _ (by have:=B.out;omega)).mono ?_
   rintro e E ⟨t,rfl,y,k⟩;have u:=hid y;have c:=hid (f.trans (k.mono f.size));have h:t.size=4+s.size:=by rw[y.size,ch];rfl
   have o:=hid h;have G:=hid (n.below k n.lt);clear y k h
   (try go_wp2_with fail)
   refine d.out _ _ (trivial) (fun a=> ?_);clear d K b;have b:=a;clear a
   (try go_frame)
   refine wpAnyH_ready (rs:=[1]) (by kernel_rfl) (by simp) ?_;refine AllReadyH.cons rfl (fun K d=> ?_) AllReadyH.nil;refine j7 147 9 5 (.tmp 11) [3] A.heap.size 0 1 1 underlying147 underlying5 underlying9 G.range rfl (.string ⟨#[3]⟩) rfl rfl rfl ?_;refine d.out _ _ (trivial) (fun a=> ?_);clear d K b;have b:=a;clear a
   (try go_frame)
   have h:¬9223372036854775807<1+t.size:=by have:=o.out;have:=B.out;omega
   refine hp 4 ?_;obtain⟨i,g⟩:∃i:ByteArray,i=ByteArray.mk #[3]++t:=⟨_,rfl⟩;rw[←g];have q:=hid (show i.size=1+t.size by rw[g,ByteArray.size_append];rfl);have r:=hid (show ah i ([3]++cq s.data.toList) by rw[g];exact(show ah (ByteArray.mk #[3]) [3]from rfl).append u.out);clear g;refine wpAnyH_ready (rs:=[5]) (by kernel_rfl) (by simp) ?_;refine AllReadyH.cons rfl (fun K d=> ?_) AllReadyH.nil;go_simp
   refine(fV i 4096 _ (by have:=q.out;have:=o.out;have:=B.out;omega) (by decide)).mono ?_
   rintro e J ⟨z,rfl,D,p⟩;have m:=hid (c.trans (p.mono c.size));have v:=hid (show ah z (holdL s.data.toList)from D.cast (by unfold holdL;rw[show i.data.toList= _ from r.out]));clear D p h
   (try go_wp2_with fail)
   refine d.out _ _ (trivial) (fun a=> ?_);clear d K b;have b:=a;clear a
   (try go_frame)
   refine hp 6 ?_;refine hp 7 ?_;refine hp 8 ?_;refine hp 9 ?_;refine wpAnyH_done (by kernel_rfl) ?_ _;clear b;go_wp2_with fail;go_ret2;exact⟨⟨z,rfl,v.out⟩,m.out⟩
 ·go_simp
  refine(eY s _ (by have:=B.out;omega)).mono ?_
  rintro e E ⟨t,rfl,y,k⟩;have u:=hid y;have c:=hid (j.trans (k.mono j.size));have h:t.size=4+s.size:=by rw[y.size,ch];rfl
  have o:=hid h
  skip
  clear y k h
  (try go_wp2_with fail)
  refine d.out _ _ (trivial) (fun a=> ?_);clear d K b;have b:=a;clear a
  (try go_frame)
  refine wpAnyH_ready (rs:=[0]) (by kernel_rfl) (by simp) ?_;refine AllReadyH.cons rfl (fun K d=> ?_) AllReadyH.nil;go_simp;obtain⟨wa,l⟩:∃H,H=E.alloc (Obj.cells #[.int .u8 3] 5):=⟨_,rfl⟩;rw[←l];have x:Below E.heap.size E wa:=by rw[l];exact(Below.refl _ _).alloc (Nat.le_refl _) _
  have F:ac wa E.heap.size (bytesV [3]) 5:=by rw[l];exact ac.new E _ _
  have n:=hid F;have f:=hid (c.trans (x.mono c.size));clear x F l
  (try go_wp2_with fail)
  refine d.out _ _ (trivial) (fun a=> ?_);clear d K b;have b:=a;clear a
  (try go_frame)
  refine wpAnyH_ready (rs:=[1]) (by kernel_rfl) (by simp) ?_;refine AllReadyH.cons rfl (fun K d=> ?_) AllReadyH.nil;refine j7 147 9 5 (.tmp 11) [3] E.heap.size 0 1 1 underlying147 underlying5 underlying9 n.range rfl (.string ⟨#[3]⟩) rfl rfl rfl ?_;refine d.out _ _ (trivial) (fun a=> ?_);clear d K b;have b:=a;clear a
  (try go_frame)
  have h:¬9223372036854775807<1+t.size:=by have:=o.out;have:=B.out;omega
  refine hp 4 ?_;obtain⟨i,g⟩:∃i:ByteArray,i=ByteArray.mk #[3]++t:=⟨_,rfl⟩;rw[←g];have q:=hid (show i.size=1+t.size by rw[g,ByteArray.size_append];rfl);have r:=hid (show ah i ([3]++cq s.data.toList) by rw[g];exact(show ah (ByteArray.mk #[3]) [3]from rfl).append u.out);clear g;refine wpAnyH_ready (rs:=[5]) (by kernel_rfl) (by simp) ?_;refine AllReadyH.cons rfl (fun K d=> ?_) AllReadyH.nil;go_simp
  refine(fV i 4096 _ (by have:=q.out;have:=o.out;have:=B.out;omega) (by decide)).mono ?_
  rintro e J ⟨z,rfl,D,p⟩;have m:=hid (f.trans (p.mono f.size));have v:=hid (show ah z (holdL s.data.toList)from D.cast (by unfold holdL;rw[show i.data.toList= _ from r.out]));clear D p h
  (try go_wp2_with fail)
  refine d.out _ _ (trivial) (fun a=> ?_);clear d K b;have b:=a;clear a
  (try go_frame)
  refine hp 6 ?_;refine hp 7 ?_;refine hp 8 ?_;refine hp 9 ?_;refine wpAnyH_done (by kernel_rfl) ?_ _;clear b;go_wp2_with fail;go_ret2;exact⟨⟨z,rfl,v.out⟩,m.out⟩
theorem oN (w:World):Sem.run prog (zeroValue 61) w= .ok (.agg (aD.cells ⟨Rec.zero,⟨#[]⟩⟩).toArray) w:=by kernel_rfl
theorem fY {x:aD}:(prog.info? 61).map (·.size)=some x.cells.length:=by kernel_rfl
theorem fE (x:aD):∀v∈x.cells,v.oneCell'=true:=by intro v a;simp[aD.cells]at a;rcases a with rfl|rfl|rfl|rfl|rfl|rfl|rfl|rfl|rfl<;>rfl
theorem pY (r:Rec) (t:ByteArray):prog.built 61 [(0, .agg r.cells.toArray),(1, .string t)]=some (aD.cells ⟨r,t⟩).toArray:=by obtain⟨a,b,c,d,e,f,g,h⟩:=r;kernel_rfl
theorem wJ (i:ap) (v:ai) (r:Rec) (w:World) (h:al w i v) (U:i.rv= .pointer none) (hk:v.key.size=32) (H:iY (bO v.sealed) (v.sealed.length:Int) r) (k:r.root.size≤1048576) (j:r.name.size≤1048576) (hf:Fits r.epoch) (T:v.sealed.length≤1048576):
  Calls prog 81 #[.pointer (some ⟨i.vb,0,none⟩),r.v] w fun e w'=>(∃t bl,e= .returned (.tuple #[.agg (aD.cells ⟨r,t⟩).toArray, .string bl])∧ah t (jj v.key.data.toList (bO v.sealed).data.toList (v.sealed.length:Int) r)∧ah bl (holdL (cD r++t.data.toList)))∧Below w.heap.size w w':=by
 have HK:=hid (show v.key.size=32∧iY (bO v.sealed) (v.sealed.length:Int) r from⟨hk,H⟩);have D:=hid (show(r.root.size≤1048576∧r.name.size≤1048576)∧Fits r.epoch∧Fits (v.sealed.length:Int)from⟨⟨k,j⟩,hf,by unfold Fits;omega⟩);have E:=hid U;have aA:=hid T;have N:=hid H.2.2.2;have H0:=hid h;obtain⟨sp,sc,V⟩:=az h.sealed;have l:=hid V;clear hk H k j hf T h U V;go_enter func81,ntmps81
 go_upto_region 1 with(first
  |((with_reducible refine ae 59 (.tmp 1) r.cells (some 3) ?hgd ?ho ?hd ?hx ?_);(case hgd|ho|hd|hx=>rfl);(intro Y w1 l1 B1 e1 z1))
  |((with_reducible refine ab 61 _ oN (some 4) ?hgd ?ho ?hd ?_);(case hgd|ho|hd=>rfl);(intro b4 w2 l2 B2 e2 z2))
  |fail)
 have F:=hid (B1.below e2 (by omega));have I:=hid B2;have aq:=hid (show w.heap.size≤b4 from by omega);have c:=hid ((e1.mono l1).trans (e2.mono (by omega)));have W:=hid (H0.below c.out);clear B1 B2 e1 e2 l1 l2 z1 z2;refine wp_region_held_drew (S:=fun wx=>wx.rangeAt Y 0 r.cells∧wx.cell? ⟨i.vb,7,none⟩=some (.pointer none)∧wx.cell? ⟨i.vb,1,none⟩=some (.string v.key)∧wx.cell? ⟨i.vb,4,none⟩=some (.slice sp v.sealed.length sc)) (by kernel_rfl) (⟨F.drew.range,(by rw[←E.out];exact W.vol.drew.cell (i:=7) rfl),W.vol.drew.cell (i:=1) rfl,(by rw[←l.out];exact W.vol.drew.cell (i:=4) rfl)⟩) (fun b=> ?_);obtain⟨wd,p⟩:∃wd,wd=w2.drew:=⟨_,rfl⟩;have d:Below w2.heap.size w2 wd:=by rw[p];exact(Below.refl _ _).drew
 have Hd:=hid (W.below d);have Q:=hid (F.below d F.lt);have s:=hid (I.below d I.lt);have A:=hid (c.trans (d.mono c.size));rw[←p];rw[←p]at b;clear p d;refine hp 0 ?_;refine hp 1 ?_;refine hp 2 ?_;refine hp 3 ?_;refine hp 4 ?_;refine hp 5 ?_;refine hp 6 ?_;refine hp 7 ?_;refine hp 8 ?_;refine hp 9 ?_;refine hp 10 ?_;refine hp 11 ?_;refine hp 13 ?_;refine hp 14 ?_;refine hp 15 ?_;refine hp 16 ?_;refine hp 17 ?_;refine wpAnyH_take (i:=18) (v:= .agg (r.cells).toArray) rfl (by kernel_rfl) (by kernel_rfl) (by kernel_rfl) (fun _ _ _ h=>h) (yieldsIf_load_mid (by rfl) 59 (.tmp 3) rfl Y 0 rfl (r.cells) _ (fun w h=>h.1) underlying59 rfl aV) (by assumption) ?_
 (try go_frame)
 refine wpAnyH_ready (rs:=[12]) (by kernel_rfl) (by simp) ?_;refine AllReadyH.cons rfl (fun K R=> ?_) AllReadyH.nil;go_simp
 refine(oM (.slice sp v.sealed.length sc) v.sealed _ (dG.own (by rw[←l.out];exact Hd.sealed) rfl) aA.out).mono ?_
 rintro e we ⟨rfl,f⟩;have X:=hid (Hd.below f);have G:=hid (Q.below f Q.lt);have u:=hid (s.below f s.lt);have B:=hid (A.trans (f.mono A.size));clear f
 (try go_wp2_with fail)
 refine R.out _ _ (⟨G.range,(by rw[←E.out];exact X.vol.cell (i:=7) rfl),X.vol.cell (i:=1) rfl,(by rw[←l.out];exact X.vol.cell (i:=4) rfl)⟩) (fun a=> ?_);clear R K b;have b:=a;clear a
 (try go_frame)
 refine wpAnyH_ready (rs:=[19]) (by kernel_rfl) (by simp) ?_;refine AllReadyH.cons rfl (fun K R=> ?_) AllReadyH.nil;go_simp
 refine(pX v.key (bO v.sealed) (v.sealed.length:Int) r _ HK.out.1 HK.out.2 D.out.1.1 D.out.1.2 D.out.2.1 D.out.2.2).mono ?_
 rintro e wf ⟨⟨t,rfl,tt⟩,g⟩;have O:=hid tt;have Hf:=hid (X.below g);have m:=hid (G.below g G.lt);have x:=hid (u.below g u.lt);have C:=hid (B.trans (g.mono B.size));clear g tt
 (try go_wp2_with fail)
 refine R.out _ _ (⟨m.range,(by rw[←E.out];exact Hf.vol.cell (i:=7) rfl),Hf.vol.cell (i:=1) rfl,(by rw[←l.out];exact Hf.vol.cell (i:=4) rfl)⟩) (fun a=> ?_);clear R K b;have b:=a;clear a
 (try go_frame)
 refine hp 20 ?_;refine wpAnyH_done (by kernel_rfl) ?_ _;clear b
 go_wp2_with (first
  |((with_reducible refine aj 59 (.tmp 3) Y r.cells 59 _ m.out underlying59 rfl aV ?hgd ?ho ?hx ?_);(case hgd|ho|hx=>rfl))
  |fail)
 refine(rr r _ D.out.1.1 D.out.1.2 D.out.2.1).mono ?_
 rintro e w5 ⟨he,n⟩
 obtain⟨q,rfl,Z⟩:∃q,e= .returned (.tuple #[.string q, .int .i64 0])∧ah q (cD r):=by
  rcases he with⟨_,h⟩|⟨h,_⟩
  ·exact h
  ·rw[N.out]at h;cases h
 have b5:=hid Z;have P:=hid (m.below n m.lt);have J:=hid (x.below n x.lt);have y:=hid (C.trans (n.mono C.size));have a6:t.size=32:=by rw[O.size,di]
 have a5:q.size≤85:=by rw[Z.size];exact eO N.out
 have bn:¬9223372036854775807<q.size+t.size:=by omega
 have M:=hid (show 1≤(q++t).size∧(q++t).size≤4000 from by rw[ByteArray.size_append];omega);have a0:=hid (show(q++t).data.toList=cD r++t.data.toList from by rw[ByteArray.data_append,Array.toList_append,show q.data.toList= _ from Z]);clear he n Z a6 a5;go_wp2_with fail
 refine(hold_walk (q++t) _ M.out.1 M.out.2).mono ?_
 rintro e w6 ⟨⟨z,rfl,tz⟩,o⟩;have a1:=hid tz;have a2:=hid (P.below o P.lt);have an:=hid (J.below o J.lt);have L:=hid (y.trans (o.mono y.size));clear o tz
 go_wp2_with (first
  |((with_reducible refine aj 59 (.tmp 3) Y r.cells 59 _ a2.out underlying59 rfl aV ?hgd ?ho ?hx ?_);(case hgd|ho|hx=>rfl))
  |((with_reducible refine au 61 ?parts45 (aD.cells ⟨r,t⟩) ?hg ?ho ?hf ?_);(case hg|ho=>rfl);(case hf=>(refine Eq.trans ?_ (pY r t);kernel_rfl)))
  |((with_reducible refine aa 61 (.tmp 4) (.tmp 45) b4 (aD.cells ⟨Rec.zero,⟨#[]⟩⟩) (aD.cells ⟨r,t⟩) 61 an.out rfl fY (fE _) ?hgd ?ho ?hx ?hy ?_);(case hgd|ho|hx|hy=>rfl);(intro w9 B9 o9))
  |fail)
 (try simp only[Exit.inBlock,Exit.then]);refine bodyPost_ret (aU rfl _ _ B9.range rfl underlying61 rfl fY) rfl ⟨⟨t,z,rfl,O.out,a1.cast (by rw[a0.out])⟩,o9.below L.out aq.out⟩
open Go.Maps Go.WideMaps
def oO (ep:Int) (c:ak):Int→Option (List UInt8):=fun j=>if j=c.lba then some (eV ep c.slot c.cipher.data.toList)else none
theorem JR (ep:Int) (c:ak):ja (sC ep c 1) (oO ep c):=ja.none.put _ _
theorem FM (ep:Int) (c:ak):fL (oO ep c):=fL.none.put _ _ (jZ _ _ _)
def yz (ep:Int) (c:ak):bK:=⟨c.lba,⟨(eV ep c.slot c.cipher.data.toList).toArray⟩⟩
theorem CV (ep:Int) (c:ak) (b:Nat) (hb:c.lba=(b:Int)):∀k,bu (oO ep c) k=if b<k then[yz ep c]else[]
 |0=>by simp[bu]
 |k+1=>by
  have ih:=CV ep c b hb k
  by_cases e:k=b
  ·subst e
   have d:oO ep c (k:Int)=some (eV ep c.slot c.cipher.data.toList):=by unfold oO;rw[if_pos hb.symm]
   rw[mz d,ih,if_neg (by omega),if_pos (by omega)];unfold yz;rw[hb]
   rfl
  ·have d:oO ep c (k:Int)=none:=by unfold oO;rw[if_neg (by omega)]
   rw[nD d,ih]
   by_cases a:b<k
   ·rw[if_pos a,if_pos (by omega)]
   ·rw[if_neg a,if_neg (by omega)]
theorem rH (ep:Int) (c:ak) (a:0≤c.lba) (b:c.lba<4096):bu (oO ep c) 4096=[yz ep c]:=by
 rw[CV ep c c.lba.toNat (by omega),if_pos (by omega)]
theorem u7 (a B:Nat) (ep:Int) (c:ak) (w:World) (h:dK w a B 1 ep (sC ep c 1)):
  Calls prog 82 #[.pointer (some ⟨a,0,none⟩)] w fun e w'=>e= .returned (.int .i64 1)∧w=w':=ju a B 1 ep _ w h
def tU (ep:Int) (c:ak):List UInt8:=lG (yz ep c)
theorem pZ (ep:Int) (c:ak):(tU ep c).length=32:=j4 _
theorem xK (a B:Nat) (ep:Int) (c:ak) (w:World) (h:dK w a B 1 ep (sC ep c 1)) (b:0≤c.lba) (d:c.lba<4096):
  Calls prog 83 #[.pointer (some ⟨a,0,none⟩)] w fun e w'=>(∃s,e= .returned (.string s)∧ah s (tU ep c))∧Below w.heap.size w w':=by
 have f:=zn a B 1 ep (sC ep c 1) (oO ep c) w h (JR ep c) (FM ep c) (by rw[rH ep c b d];exact Nat.le_refl _);rw[rH ep c b d]at f;exact f
end Go.Proofs.YtadooplpfhdhcaaGreat
