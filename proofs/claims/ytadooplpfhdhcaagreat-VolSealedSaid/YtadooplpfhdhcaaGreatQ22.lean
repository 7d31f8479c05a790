/- Walks of receipt.may, Make, Of and the documents' Few, Right, Make, Last (chapters 19, 20, 21). Walks of receipt.Make and the documents' Make (chapter 21). Walks of receipt.Of, Forge, All (chapter 21). Walk of receipt.Forge (chapter 21). -/
import Derived.Test.YtadooplpfhdhcaaGreatQ13
import Derived.Deep.RegionHeld3
import Derived.Deep.RegionWith
import Derived.Deep.MidRow
import Derived.Laws.ResultCell
import Derived.Deep.QuietTactic
import Derived.BigQuiet
import Derived.Test.YtadooplpfhdhcaaGreatQ2
import Derived.Test.YtadooplpfhdhcaaGreatQ17
import Derived.Test.YtadooplpfhdhcaaGreatQ9
import Derived.OrdersHeld
import Derived.Test.YtadooplpfhdhcaaGreatQ7
import Derived.Test.YtadooplpfhdhcaaGreatQ21
import Derived.Test.YtadooplpfhdhcaaGreatQ12
set_option linter.unusedSimpArgs false
set_option linter.unusedVariables false
set_option maxRecDepth 100000
set_option maxHeartbeats 4000000
namespace Go.Proofs.YtadooplpfhdhcaaGreat
open Go Go.RowKit
open Go.Lib (hid)
open Go.Proofs.Tryz
structure bR where
 seq:Int
 r:Rec
 was:ByteArray
 tag:ByteArray
def bR.cells (x:bR):List Value:=[.int .i64 x.seq, .int .i64 x.r.kind, .int .i64 x.r.epoch, .int .i64 x.r.time, .int .i64 x.r.count, .int .i64 x.r.target, .int .i64 x.r.till, .string x.r.root, .string x.r.name, .string x.was, .string x.tag]
def bR.v (x:bR):Value:= .agg #[.int .i64 x.seq, .int .i64 x.r.kind, .int .i64 x.r.epoch, .int .i64 x.r.time, .int .i64 x.r.count, .int .i64 x.r.target, .int .i64 x.r.till, .string x.r.root, .string x.r.name, .string x.was, .string x.tag]
def bR.zero:bR:=⟨0,Rec.zero,⟨#[]⟩,⟨#[]⟩⟩
def js (x:bR):Bool:=decide (0≤x.seq)&&decide (x.seq≤4294967295)&&aL x.r&&decide (x.r.kind=1)&&decide ((x.was.size:Int)=32)&&decide ((x.tag.size:Int)=32)
def cC (l:List ay):ByteArray:=match l.getLast? with|none=>⟨(List.replicate 32 (0:UInt8)).toArray⟩|some x=>x.tag
theorem aj.eqB {p:ByteArray} {l:List UInt8} (h:aj p l):p=⟨l.toArray⟩:=by
 have a:p.data.toList=l:=h;rw[←a]
theorem dA {x:bR}:(prog.info? 84).map (·.size)=some x.cells.length:=by kernel_rfl
theorem J5 {a b:ByteArray} (h:a=b):Ending.returned (.string a)= .returned (.string b):=by rw[h]
structure eL (w:World) (b:Nat) (x:bR):Prop where
 lt:b<w.heap.size
 at_:∀(i:Nat) (u:Value),x.cells[i]?=some u→w.cell? ⟨b,i,none⟩=some u
theorem eL.below {w a:World} {b:Nat} {x:bR} (h:eL w b x) {B:Nat} (hb:Below B w a) (c:b<B):eL a b x:=
 ⟨by have:=hb.size;have:=h.lt;omega,fun i u hu=>by rw[hb.cell (by exact c)];exact h.at_ i u hu⟩
theorem eL.blk {w:World} {b:Nat} {x:bR} {t:TypeId} (h:ac w b x.cells t):eL w b x:=⟨h.lt,fun i u hu=>h.cell hu⟩
theorem eL.cells_ {w:World} {b:Nat} {x:bR} (h:eL w b x):
  w.cell? ⟨b,0,none⟩=some (.int .i64 x.seq)∧w.cell? ⟨b,1,none⟩=some (.int .i64 x.r.kind)∧w.cell? ⟨b,2,none⟩=some (.int .i64 x.r.epoch)∧w.cell? ⟨b,3,none⟩=some (.int .i64 x.r.time)∧w.cell? ⟨b,4,none⟩=some (.int .i64 x.r.count)∧
  w.cell? ⟨b,5,none⟩=some (.int .i64 x.r.target)∧w.cell? ⟨b,6,none⟩=some (.int .i64 x.r.till)∧w.cell? ⟨b,7,none⟩=some (.string x.r.root)∧w.cell? ⟨b,8,none⟩=some (.string x.r.name)∧w.cell? ⟨b,9,none⟩=some (.string x.was)∧w.cell? ⟨b,10,none⟩=some (.string x.tag):=
 ⟨h.at_ 0 _ rfl,h.at_ 1 _ rfl,h.at_ 2 _ rfl,h.at_ 3 _ rfl,h.at_ 4 _ rfl,h.at_ 5 _ rfl,h.at_ 6 _ rfl,h.at_ 7 _ rfl,h.at_ 8 _ rfl,h.at_ 9 _ rfl,h.at_ 10 _ rfl⟩
theorem EF (x:bR) (w:World) (p:x.r.name.size≤1073741824) (J:Fits x.r.epoch) (G:Fits x.seq):
  Calls prog 179 #[x.v] w fun e w'=>e= .returned (.bool (js x))∧Below w.heap.size w w':=by
 by_cases A:0≤x.seq∧x.seq≤4294967295
 ·have s:=hid A;clear A
  go_enter func179,ntmps179;go_wp2_with ((with_reducible refine ae 84 (.tmp 0) x.cells (some 1) ?hgd ?ho ?hd ?hx ?_);(case hgd|ho|hd|hx=>rfl);(intro b w0 E B y F;have t:=hid (eL.blk B);obtain⟨d,f,g,h,i,j,k,l,m,n,o⟩:=t.out.cells_));clear d f g h i j k l m n o
  refine(jN x.seq _ G).mono ?_
  rintro e K ⟨D,a⟩;obtain⟨q,rfl,L⟩:=D.yes s.out;have u:=hid (t.below a F);obtain⟨d,f,g,h,i,j,k,l,m,n,o⟩:=u.cells_;go_wp2_with fail;clear d f g h i j k l m n o
  refine(iV x.r _ p J).mono ?_
  rintro e M ⟨rfl,z⟩;have I:=hid (u.below z u.lt);obtain⟨d,f,g,h,i,j,k,l,m,n,o⟩:=I.cells_;have c:=(y.mono E).trans ((bt a z).mono (by have:=y.size;omega))
  cases hok:aL x.r with
  |true=>
   rw[ko hok];have C:=hid hok;clear hok;go_wp2_with fail
   all_goals(go_ret;refine⟨dV ?_,c⟩;have H:=s.out;have k2:=C.out;simp only[js,k2,Bool.and_true];first|(simp[*];done)|(simp[*];intros;omega)|(rw[Bool.eq_iff_iff];simp;omega))
  |false=>
   rw[rE hok];have C:=hid hok;clear hok;go_wp2_with fail
   all_goals(go_ret;refine⟨dV ?_,c⟩;have k2:=C.out;simp only[js,k2,Bool.and_false,Bool.false_and])
 ·have s:=hid A;clear A
  go_enter func179,ntmps179;go_wp2_with ((with_reducible refine ae 84 (.tmp 0) x.cells (some 1) ?hgd ?ho ?hd ?hx ?_);(case hgd|ho|hd|hx=>rfl);(intro b w0 E B y F;have t:=hid (eL.blk B);obtain⟨d,f,g,h,i,j,k,l,m,n,o⟩:=t.out.cells_));clear d f g h i j k l m n o
  refine(jN x.seq _ G).mono ?_
  rintro e K ⟨D,a⟩;obtain rfl:=D.no s.out;have u:=hid (t.below a F);obtain⟨d,f,g,h,i,j,k,l,m,n,o⟩:=u.cells_;have c:=(y.mono E).trans (a.mono (by have:=y.size;omega));go_wp2_with fail
  all_goals(go_ret;refine⟨dV ?_,c⟩;have H:=s.out;simp only[js,←Bool.decide_and,H];simp)
theorem uy (v:Value) (l:List ay) (w:World) (h:dh w v l) (hl:l.length≤1048576):
  Calls prog 171 #[v] w fun e w'=>e= .returned (.string (cC l))∧Below w.heap.size w w':=by
 by_cases d:l=[]
 ·subst d
  obtain⟨a,c,rfl⟩:=h.shape;clear h;go_enter func171,ntmps171;go_wp2_with fail
  refine(tZ _).mono ?_
  rintro e u ⟨p,rfl,m,f⟩;go_wp2_with fail;go_ret;exact⟨J5 (m.eqB),f⟩
 ·rcases h with⟨rfl,_⟩|⟨g,o,c,rfl,hcap,hg,hat⟩
  ·exact absurd rfl d
  obtain⟨n,hn⟩:∃n,n=l.length:=⟨_,rfl⟩;have j:0<n:=by rw[hn];exact List.length_pos_iff.2 d
  obtain⟨x,i⟩:∃x,l[n-1]?=some x:=⟨_,List.getElem?_eq_getElem (by omega)⟩;have q:w.cell? ⟨g,o+(n-1)*9+8,none⟩=some (.string x.tag):=hat _ x i 8 _ rfl
  have b:cC l=x.tag:=by
   unfold cC;rw[List.getLast?_eq_getElem?,←hn,i]
  have k:=hid b;have r:(0:Int)≤(n:Int)-1:=by omega
  have k2:(n:Int)-1<n:=by omega
  have s:¬((n:Int)=0):=by omega
  have t:(n:Int)≤1048576:=by omega
  clear hat i d b;rw[←hn];rw[←hn]at hcap;clear hn hl;go_enter func171,ntmps171;go_wp2_with fail;go_ret;exact⟨J5 k.symm,Below.refl _ _⟩
def fJ (l:List ay) (k:Nat) (x:ay):bR:=⟨(k:Int),x.r,cC (l.take k),x.tag⟩
def iz (l:List ay) (i:Int):Option ay:=if 0≤i then(l[i.toNat]?).filter (fun x=>decide (x.r.kind=1))else none
def gZ (l:List ay) (i:Int):bR×Int:=
 match iz l i with
 |none=>(bR.zero,7)
 |some x=>if js (fJ l i.toNat x)then(fJ l i.toNat x,0)else(bR.zero,2)
theorem uz {l:List ay} {i:Int} (h:iz l i=none):gZ l i=(bR.zero,7):=by unfold gZ;rw[h]
theorem CY {l:List ay} {i:Int} (h:¬(0≤i∧i<l.length)):iz l i=none:=by
 unfold iz
 split
 ·rw[List.getElem?_eq_none (by omega)];rfl
 ·rfl
theorem uA {l:List ay} {k:Nat} {x:ay} (h:l[k]?=some x):iz l k=if x.r.kind=1 then some x else none:=by
 unfold iz;rw[if_pos (by omega),Int.toNat_natCast,h]
 by_cases a:x.r.kind=1
 ·rw[if_pos a];simp[Option.filter,a]
 ·rw[if_neg a];simp[Option.filter,a]
theorem Jh {l:List ay} {k:Nat} {x:ay} (h:l[k]?=some x) (a:x.r.kind=1):gZ l k=if js (fJ l k x)then(fJ l k x,0)else(bR.zero,2):=by
 unfold gZ;rw[uA h,if_pos a]
 rfl
def jE (l:List ay):Prop:=∀(j:Nat) (x:ay),l[j]?=some x→x.r.name.size≤1048576∧x.r.root.size≤1048576∧x.tag.size≤1048576∧Fits x.r.epoch
theorem jF (w:World):Sem.run prog (zeroValue 84) w= .ok (.agg bR.zero.cells.toArray) w:=by kernel_rfl
theorem bR.cells_one (x:bR):∀v∈x.cells,v.oneCell'=true:=by intro v a;simp[bR.cells]at a;rcases a with rfl|rfl|rfl|rfl|rfl|rfl|rfl|rfl|rfl|rfl|rfl<;>rfl
theorem MJ {w:World} {b:Nat} {a:List Value} {t:TypeId} {d e f g i j k l m n c:Value} (h:ac w b a t) (hl:a.length=11):
  ac (((((((((((w.setCell ⟨b,0,none⟩ d).setCell ⟨b,1,none⟩ e).setCell ⟨b,2,none⟩ f).setCell ⟨b,3,none⟩ g).setCell ⟨b,4,none⟩ i).setCell ⟨b,5,none⟩ j).setCell ⟨b,6,none⟩ k).setCell ⟨b,7,none⟩ l).setCell ⟨b,8,none⟩ m).setCell ⟨b,9,none⟩ n).setCell ⟨b,10,none⟩ c) b [d,e,f,g,i,j,k,l,m,n,c] t:=
 (((((((((((h.set 0 d).set 1 e).set 2 f).set 3 g).set 4 i).set 5 j).set 6 k).set 7 l).set 8 m).set 9 n).set 10 c).ext (by
   match a,hl with
   |[_,_,_,_,_,_,_,_,_,_,_],_=>rfl)
theorem KP {B:Nat} {a w:World} {b:Nat} {d e f g i j k l m n c:Value} (h:Below B a w) (o:B≤b):Below B a (((((((((((w.setCell ⟨b,0,none⟩ d).setCell ⟨b,1,none⟩ e).setCell ⟨b,2,none⟩ f).setCell ⟨b,3,none⟩ g).setCell ⟨b,4,none⟩ i).setCell ⟨b,5,none⟩ j).setCell ⟨b,6,none⟩ k).setCell ⟨b,7,none⟩ l).setCell ⟨b,8,none⟩ m).setCell ⟨b,9,none⟩ n).setCell ⟨b,10,none⟩ c):=
 ((((((((((((cA.refl b w).setCell 0 d).setCell 1 e).setCell 2 f).setCell 3 g).setCell 4 i).setCell 5 j).setCell 6 k).setCell 7 l).setCell 8 m).setCell 9 n).setCell 10 c).below h o
theorem Ac {l:List ay} {k:Nat} {x:ay} (a:x.r.kind=1):[.int .i64 (k:Int), .int .i64 1, .int .i64 x.r.epoch, .int .i64 x.r.time, .int .i64 x.r.count, .int .i64 x.r.target, .int .i64 x.r.till, .string x.r.root, .string x.r.name, .string (cC (l.take k)), .string x.tag]=(fJ l k x).cells:=by
 show _=[Value.int .i64 (k:Int), .int .i64 x.r.kind, .int .i64 x.r.epoch, .int .i64 x.r.time, .int .i64 x.r.count, .int .i64 x.r.target, .int .i64 x.r.till, .string x.r.root, .string x.r.name, .string (cC (l.take k)), .string x.tag]
 rw[a]
theorem LO (w:World) {l:List ay} {k:Nat} {x:ay} (a:x.r.kind=1):eL (w.alloc (Obj.cells #[.int .i64 (k:Int), .int .i64 1, .int .i64 x.r.epoch, .int .i64 x.r.time, .int .i64 x.r.count, .int .i64 x.r.target, .int .i64 x.r.till, .string x.r.root, .string x.r.name, .string (cC (l.take k)), .string x.tag] 84)) w.heap.size (fJ l k x):=
 eL.blk (t:=84) ((ac.new w [.int .i64 (k:Int), .int .i64 1, .int .i64 x.r.epoch, .int .i64 x.r.time, .int .i64 x.r.count, .int .i64 x.r.target, .int .i64 x.r.till, .string x.r.root, .string x.r.name, .string (cC (l.take k)), .string x.tag] 84).ext (Ac a))
theorem LP {w:World} {b:Nat} {l:List ay} {k:Nat} {x:ay} (a:x.r.kind=1) (h:ac w b bR.zero.cells 84):eL (((((((((((w.setCell ⟨b,0,none⟩ (.int .i64 (k:Int))).setCell ⟨b,1,none⟩ (.int .i64 1)).setCell ⟨b,2,none⟩ (.int .i64 x.r.epoch)).setCell ⟨b,3,none⟩ (.int .i64 x.r.time)).setCell ⟨b,4,none⟩ (.int .i64 x.r.count)).setCell ⟨b,5,none⟩ (.int .i64 x.r.target)).setCell ⟨b,6,none⟩ (.int .i64 x.r.till)).setCell ⟨b,7,none⟩ (.string x.r.root)).setCell ⟨b,8,none⟩ (.string x.r.name)).setCell ⟨b,9,none⟩ (.string (cC (l.take k)))).setCell ⟨b,10,none⟩ (.string x.tag)) b (fJ l k x):=
 eL.blk (t:=84) ((MJ h rfl).ext (Ac a))
theorem fq {c:Func} {p u:Tmp} (h:c.results=#[.cell p 84, .tmp u]) (a:Array Value) (w:World) {b:Nat} {x:bR} (hb:eL w b x) (hp:a.getD p undef= .pointer (some ⟨b,0,none⟩)):
  (results c a).run prog w= .ok (.tuple #[x.v,a.getD u undef]) w:=by
 rw[results_cell_tmp h,hp];have e:=run_loadVar_mid (P:=prog) w b 0 84 x.cells _ (fun i u hu=>by rw[Nat.zero_add];exact hb.at_ i u hu) underlying84 rfl dA;simp only[asAddr,Sem.run_pure,Result.andThen_ok,e]
 rfl
def rL (l:List ay) (i:Int) (e:Ending):Prop:=e= .returned (.tuple #[(gZ l i).1.v, .int .i64 (gZ l i).2])
theorem xz (v:Value) (l:List ay) (i:Int) (w:World) (h:dh w v l) (hl:l.length≤1048576) (N:jE l):
  Calls prog 87 #[v, .int .i64 i] w fun e w'=>rL l i e∧Below w.heap.size w w':=by
 unfold rL
 by_cases D:0≤i∧i<l.length
 rotate_left
 ·rw[uz (CY D)]
  obtain⟨p,c,rfl⟩:=h.shape;obtain⟨n,hn⟩:∃n,n=l.length:=⟨_,rfl⟩;rw[←hn];rw[←hn]at D;clear h N hn hl
  by_cases bx:i<0
  ·go_enter func87,ntmps87
   go_wp2_with (first|((with_reducible refine ab 84 bR.zero.cells jF (some 4) ?hgd ?ho ?hd ?_);(case hgd|ho|hd=>rfl);(intro y d f q t P))|((with_reducible refine aa 84 (.tmp 4) (.tmp 24) y bR.zero.cells bR.zero.cells 84 q rfl dA (bR.cells_one _) ?hgd ?ho ?hx ?hy ?_);(case hgd|ho|hx|hy=>rfl);(intro O s u)))
   (try simp only[Exit.inBlock,Exit.then]);refine bodyPost_ret (fq rfl _ _ (eL.blk s) rfl) rfl ⟨rfl,u.below (t.mono f) f⟩
  ·have h1:0≤i:=by omega
   have h2:(n:Int)≤i:=by omega
   go_enter func87,ntmps87;go_wp2_with (first|((with_reducible refine ab 84 bR.zero.cells jF (some 4) ?hgd ?ho ?hd ?_);(case hgd|ho|hd=>rfl);(intro y d f q t P))|((with_reducible refine aa 84 (.tmp 4) (.tmp 24) y bR.zero.cells bR.zero.cells 84 q rfl dA (bR.cells_one _) ?hgd ?ho ?hx ?hy ?_);(case hgd|ho|hx|hy=>rfl);(intro O s u)))
   (try simp only[Exit.inBlock,Exit.then]);refine bodyPost_ret (fq rfl _ _ (eL.blk s) rfl) rfl ⟨rfl,u.below (t.mono f) f⟩
 ·rcases h with⟨rfl,_⟩|⟨g,o,c,rfl,hcap,hg,hat⟩
  ·simp at D;omega
  obtain⟨k,rfl⟩:∃k:Nat,i=(k:Int):=⟨i.toNat,by omega⟩;have E:k<l.length:=by omega
  obtain⟨x,hx⟩:∃x,l[k]?=some x:=⟨_,List.getElem?_eq_getElem E⟩;obtain⟨n,hn⟩:∃n,n=l.length:=⟨_,rfl⟩;have R:Hid (mZ w g o n c l):=hid ⟨hn,by omega,hg,hat⟩;have A:dh w (.slice (some ⟨g,o,none⟩) n c) l:=R.row;have HT:=hid (N k x hx);have b9:(0:Int)≤(k:Int):=by omega
  have cc:(k:Int)<n:=by omega
  have cb:(k:Int)≤c:=by omega
  have z:k≤n:=by omega
  have ce:¬n≤k:=by omega
  have F:(l.take k).length≤1048576:=by rw[List.length_take];omega
  have T:=hid F;have S:Hid ((k:Int)≤1048576):=hid (by omega);rw[←hn];have HX:=hid hx
  by_cases K:x.r.kind=1
  rotate_left
  ·have ca:(x.r.kind !=1)=true:=by simpa using K
   have j:gZ l (k:Int)=(bR.zero,7):=uz (by rw[uA hx,if_neg K]);rw[j];clear j hx hat E hl hn N A F;go_enter func87,ntmps87;go_wp2_with (first|((with_reducible refine ab 84 bR.zero.cells jF (some 4) ?hgd ?ho ?hd ?_);(case hgd|ho|hd=>rfl);(intro y d f q t P);(have b:=hid (R.out.below t f));(obtain⟨c0,c1,c2,c3,c4,c5,c6,c7,c8⟩:=mY (b.out.at_ k x HX.out)))|((with_reducible refine aa 84 (.tmp 4) (.tmp 24) y bR.zero.cells bR.zero.cells 84 q rfl dA (bR.cells_one _) ?hgd ?ho ?hx ?hy ?_);(case hgd|ho|hx|hy=>rfl);(intro O s u)))
   (try simp only[Exit.inBlock,Exit.then]);refine bodyPost_ret (fq rfl _ _ (eL.blk s) rfl) rfl ⟨rfl,u.below (t.mono f) f⟩
  ·have j:=Jh hx K
   have G:=hid j;clear j hx hat E hl hn N A F;go_enter func87,ntmps87;go_wp2_with ((with_reducible refine ab 84 bR.zero.cells jF (some 4) ?hgd ?ho ?hd ?_);(case hgd|ho|hd=>rfl);(intro y d f q t P);(have b:=hid (R.out.below t f));(obtain⟨c0,c1,c2,c3,c4,c5,c6,c7,c8⟩:=mY (b.out.at_ k x HX.out)));have b3:¬g=d.heap.size:=by have:=b.lt;omega
   have b5:¬d.heap.size=g:=by omega
   have bd:g<d.heap.size:=b.lt;go_cut [6]from 25 to 41 (fun v6 wc=>∃M,v6= .pointer (some ⟨M,0,none⟩)∧eL wc M (fJ l k x)∧d.heap.size≤M∧Below d.heap.size d wc)
   case first=>
    go_region_held3 (fun w'=>w'.cell? ⟨g,o+k*9,none⟩=some (.int .i64 x.r.kind)∧w'.cell? ⟨g,o+k*9+1,none⟩=some (.int .i64 x.r.epoch)∧w'.cell? ⟨g,o+k*9+2,none⟩=some (.int .i64 x.r.time)∧w'.cell? ⟨g,o+k*9+3,none⟩=some (.int .i64 x.r.count)∧w'.cell? ⟨g,o+k*9+4,none⟩=some (.int .i64 x.r.target)∧w'.cell? ⟨g,o+k*9+5,none⟩=some (.int .i64 x.r.till)∧w'.cell? ⟨g,o+k*9+6,none⟩=some (.string x.r.root)∧w'.cell? ⟨g,o+k*9+7,none⟩=some (.string x.r.name)∧w'.cell? ⟨g,o+k*9+8,none⟩=some (.string x.tag)) (go_keep) ((first|(go_at_call_of 171 (Value.slice (some ⟨g,o,none⟩) k c);refine(uy _ (l.take k) _ (by first|exact(b.below (Below.refl _ _).drew (Nat.le_refl _)).take z|exact(b.below ((Below.refl _ _).drew.alloc (Nat.le_refl _) _) (Nat.le_refl _)).take z) T.out).mono ?_;rintro e L ⟨rfl,a⟩;have d0:=a.cell (p:=⟨g,o+k*9,none⟩) (by have:=b.lt;first|exact this|exact Nat.lt_of_lt_of_le this (by simp));have d1:=a.cell (p:=⟨g,o+k*9+1,none⟩) (by have:=b.lt;first|exact this|exact Nat.lt_of_lt_of_le this (by simp));have d2:=a.cell (p:=⟨g,o+k*9+2,none⟩) (by have:=b.lt;first|exact this|exact Nat.lt_of_lt_of_le this (by simp));have d3:=a.cell (p:=⟨g,o+k*9+3,none⟩) (by have:=b.lt;first|exact this|exact Nat.lt_of_lt_of_le this (by simp));have d4:=a.cell (p:=⟨g,o+k*9+4,none⟩) (by have:=b.lt;first|exact this|exact Nat.lt_of_lt_of_le this (by simp));have d5:=a.cell (p:=⟨g,o+k*9+5,none⟩) (by have:=b.lt;first|exact this|exact Nat.lt_of_lt_of_le this (by simp));have d6:=a.cell (p:=⟨g,o+k*9+6,none⟩) (by have:=b.lt;first|exact this|exact Nat.lt_of_lt_of_le this (by simp));have d7:=a.cell (p:=⟨g,o+k*9+7,none⟩) (by have:=b.lt;first|exact this|exact Nat.lt_of_lt_of_le this (by simp));have d8:=a.cell (p:=⟨g,o+k*9+8,none⟩) (by have:=b.lt;first|exact this|exact Nat.lt_of_lt_of_le this (by simp));have m:d.heap.size≤L.heap.size:=(by have hq:=a.size;first|exact hq|exact Nat.le_trans (by simp) hq);have J:g<L.heap.size:=Nat.lt_of_lt_of_le bd m;have b7:¬g=L.heap.size:=Nat.ne_of_lt J;have b8:¬L.heap.size=g:=Nat.ne_of_gt J;have hz:=fun(i:Nat) (h:d.heap.size<_)=>a.cell (p:=⟨d.heap.size,i,none⟩) h;have hf:=fun(i:Nat) (h:d.heap.size<_)=>a.frozen (p:=⟨d.heap.size,i,none⟩) h;have cf:=fun(h:d.heap.size<_)=>Nat.lt_of_lt_of_le h a.size;have cg:=fun(h:d.heap.size<_)=>Nat.ne_of_lt (Nat.lt_of_lt_of_le h a.size))|fail))
    all_goals go_wp2_with fail
    all_goals go_meet
    ·exact⟨_,rfl,LO L K,m,((Below.refl d.heap.size d).drew.trans a).alloc m _⟩
    ·exact⟨_,rfl,LP K ((ac.new d.drew bR.zero.cells 84).below a (by simp)),Nat.le_refl _,KP (((Below.refl d.heap.size d).drew.alloc (Nat.le_refl _) _).trans (a.mono (by simp))) (Nat.le_refl _)⟩
   case rest=>
    clear c0 c1 c2 c3 c4 c5 c6 c7 c8;obtain⟨M,rfl,H,b2,C⟩:=hcut;have Q:=q.below C P;have H:=hid H;obtain⟨U,V,W,X,Y,Z,a6,a7,a8,a9,aA⟩:=H.cells_;go_wp2_with fail;clear U V W X Y Z a6 a7 a8 a9 aA;have m:=C.size
    refine(EF (fJ l k x) _ (by have:=HT.out.1;show x.r.name.size≤_;omega) HT.out.2.2.2 (by show Fits (k:Int);have:=S.out;unfold Fits;omega)).mono ?_
    rintro e w7 ⟨rfl,B⟩;have q:=Q.below B (by omega);have R7:=hid (H.below B H.lt);obtain⟨U,V,W,X,Y,Z,a6,a7,a8,a9,aA⟩:=R7.cells_;have I:Below w.heap.size w w7:=(t.mono f).trans ((C.trans (B.mono m)).mono (by omega))
    cases hok:js (fJ l k x)with
    |true=>
     have j:=G.out;rw[hok]at j;have G:=hid j;clear j hok;go_wp2_with ((with_reducible refine aa 84 (.tmp 4) (.tmp 45) y bR.zero.cells (fJ l k x).cells 84 q rfl dA (bR.cells_one _) ?hgd ?ho ?hx ?hy ?_);(case hgd|ho|hx|hy=>rfl);(intro O s u))
     (try simp only[Exit.inBlock,Exit.then]);refine bodyPost_ret (fq rfl _ _ (eL.blk s) rfl) rfl ⟨by rw[G.out];rfl,u.below I f⟩
    |false=>
     have j:=G.out;rw[hok]at j;have G:=hid j;clear j hok U V W X Y Z a6 a7 a8 a9 aA;go_wp2_with ((with_reducible refine aa 84 (.tmp 4) (.tmp 44) y bR.zero.cells bR.zero.cells 84 q rfl dA (bR.cells_one _) ?hgd ?ho ?hx ?hy ?_);(case hgd|ho|hx|hy=>rfl);(intro O s u))
     (try simp only[Exit.inBlock,Exit.then]);refine bodyPost_ret (fq rfl _ _ (eL.blk s) rfl) rfl ⟨by rw[G.out];rfl,u.below I f⟩
deriving instance DecidableEq for Rec
deriving instance DecidableEq for bR
theorem lT {a b:ByteArray} (h:a.toList=b.toList):a=b:=by
 have c:=(aj.self a).toList;have d:=(aj.self b).toList;rw[h,d]at c;obtain⟨⟨a⟩⟩:=a;obtain⟨⟨b⟩⟩:=b
 simpa using c.symm
theorem bR.same {x y:bR} (m:y.seq=x.seq) (n:y.r.kind=x.r.kind) (o:y.r.epoch=x.r.epoch) (p:y.r.time=x.r.time) (q:y.r.count=x.r.count) (t:y.r.target=x.r.target) (u:y.r.till=x.r.till)
  (v:y.r.root.toList=x.r.root.toList) (w:y.r.name.toList=x.r.name.toList) (k:y.was.toList=x.was.toList) (l:y.tag.toList=x.tag.toList):y=x:=by
 obtain⟨s,⟨a,b,c,d,e,f,g,h⟩,i,j⟩:=x;obtain⟨H,⟨a',b',z,A,B,C,D,E⟩,F,G⟩:=y;simp only at m n o p q t u v w k l;obtain rfl:=lT v;obtain rfl:=lT w;obtain rfl:=lT k;obtain rfl:=lT l;subst m n o p q t u
 rfl
deriving instance DecidableEq for ay
open Go.ChangeShapes Go.WideShapes Go.Deep
structure Nr (x:bR):Prop where
 seq:Fits x.seq
 r:DV x.r
section
variable {H:Type} {enc:TypeId×Value→H} {w:World} {base:Nat} {spare:Nat→Bool} {held:Bool}
end
section
variable {P:Program} {o:Oper} {a:Act} {w:World} {K:Act→World→Prop} {Q:Exit→Act→World→Prop}
theorem jZ (f c e:TypeId) (x:Operand) (l:List UInt8) (b off d g:Nat)
  (p:P.underlying f=some (.slice e)) (k:P.underlying e=some (.int .u8)) (hd:P.underlying c=some .string)
  (n:w.rangeAt b off (bytesV l)) (hl:d=l.length) (v:Value) (i:str l=v)
  (m:o.op= .convert f c x) (q:a.eval x= .slice (some ⟨b,off,none⟩) d g)
  (h:K (a.put o.dst v) w):o.wp P a w K Q:=by
 subst i;unfold Oper.wp execOp;simp only[m,q,Sem.run_bind];rw[run_convert_bytes_string w f c e _ _ _ p k hd,mF w _ l d g hl (fun j v i=>by rw[Addr.add_mid];exact n j v i)];exact h
end
theorem hold_walk (s:ByteArray) (w:World) (L:1≤s.size) (I:s.size≤4000):
  Calls prog 173 #[.string s] w fun e w'=>(∃z,e= .returned (.tuple #[.string z, .int .i64 0])∧aj z (holdL s.data.toList))∧Below w.heap.size w w':=by
 have M:(s.toList==([]:List UInt8))=false:=by
  rw[beq_eq_false_iff_ne];intro e;have O:s.data.toList.length=0:=by rw[←Lib.toList_data,e];rfl
  have N:s.data.toList.length=s.size:=rfl;omega
 have P:(s.size:Int)≤4000:=by omega
 have B:=hid I;clear I L;go_enter func173,ntmps173;go_upto_region 3 with fail;clear M;refine wp_region_held_drew (S:=fun Q=>True) (by kernel_rfl) (trivial) (fun b=> ?_);obtain⟨A,C⟩:∃A,A=w.drew:=⟨_,rfl⟩;have j:Hid (Below w.heap.size w A):=hid (by rw[C];exact(Below.refl _ _).drew);rw[←C]
 (try rw[←C]at b)
 clear C;refine hp 2 ?_;refine wpAnyH_ready (rs:=[0,3]) (by kernel_rfl) (by simp) ?_;refine AllReadyH.cons rfl (fun K d=> ?_) (AllReadyH.cons rfl (fun K d=> ?_) AllReadyH.nil)
 ·go_simp
  obtain⟨wa,l⟩:∃H,H=A.alloc (Obj.cells #[.int .u8 3] 5):=⟨_,rfl⟩;rw[←l];have x:Below A.heap.size A wa:=by rw[l];exact(Below.refl _ _).alloc (Nat.le_refl _) _
  have F:ac wa A.heap.size (bytesV [3]) 5:=by rw[l];exact ac.new A _ _
  have n:=hid F;have f:=hid (j.trans (x.mono j.size));clear x F l
  (try go_wp2_with fail)
  refine d.out _ _ (trivial) (fun a=> ?_);clear d K b;have b:=a;clear a
  (try go_frame)
  refine wpAnyH_ready (rs:=[1,3]) (by kernel_rfl) (by simp) ?_;refine AllReadyH.cons rfl (fun K d=> ?_) (AllReadyH.cons rfl (fun K d=> ?_) AllReadyH.nil)
  ·refine jZ 147 9 5 (.tmp 11) [3] A.heap.size 0 1 1 underlying147 underlying5 underlying9 n.range rfl (.string ⟨#[3]⟩) rfl rfl rfl ?_
   refine d.out _ _ (trivial) (fun a=> ?_);clear d K b;have b:=a;clear a
   (try go_frame)
   refine wpAnyH_ready (rs:=[3]) (by kernel_rfl) (by simp) ?_;refine AllReadyH.cons rfl (fun K d=> ?_) AllReadyH.nil;go_simp
   refine(fe s _ (by have:=B.out;omega)).mono ?_
   rintro e E ⟨t,rfl,y,k⟩;have u:=hid y;have c:=hid (f.trans (k.mono f.size));have h:t.size=4+s.size:=by rw[y.size,cp];rfl
   have o:=hid h
   skip
   clear y k h
   (try go_wp2_with fail)
   refine d.out _ _ (trivial) (fun a=> ?_);clear d K b;have b:=a;clear a
   (try go_frame)
   have h:¬9223372036854775807<1+t.size:=by have:=o.out;have:=B.out;omega
   refine hp 4 ?_;obtain⟨i,g⟩:∃i:ByteArray,i=ByteArray.mk #[3]++t:=⟨_,rfl⟩;rw[←g];have q:=hid (show i.size=1+t.size by rw[g,ByteArray.size_append];rfl);have r:=hid (show aj i ([3]++dl s.data.toList) by rw[g];exact(show aj (ByteArray.mk #[3]) [3]from rfl).append u.out);clear g;refine wpAnyH_ready (rs:=[5]) (by kernel_rfl) (by simp) ?_;refine AllReadyH.cons rfl (fun K d=> ?_) AllReadyH.nil;go_simp
   refine(fU i 4096 _ (by have:=q.out;have:=o.out;have:=B.out;omega) (by decide)).mono ?_
   rintro e J ⟨z,rfl,D,p⟩;have m:=hid (c.trans (p.mono c.size));have v:=hid (show aj z (holdL s.data.toList)from D.cast (by unfold holdL;rw[show i.data.toList= _ from r.out]));clear D p h
   (try go_wp2_with fail)
   refine d.out _ _ (trivial) (fun a=> ?_);clear d K b;have b:=a;clear a
   (try go_frame)
   refine hp 6 ?_;refine hp 7 ?_;refine hp 8 ?_;refine hp 9 ?_;refine wpAnyH_done (by kernel_rfl) ?_ _;clear b;go_wp2_with fail;go_ret2;exact⟨⟨z,rfl,v.out⟩,m.out⟩
  ·go_simp
   refine(fe s _ (by have:=B.out;omega)).mono ?_
   rintro e E ⟨t,rfl,y,k⟩;have u:=hid y;have c:=hid (f.trans (k.mono f.size));have h:t.size=4+s.size:=by rw[y.size,cp];rfl
   have o:=hid h;have G:=hid (n.below k n.lt);clear y k h
   (try go_wp2_with fail)
   refine d.out _ _ (trivial) (fun a=> ?_);clear d K b;have b:=a;clear a
   (try go_frame)
   refine wpAnyH_ready (rs:=[1]) (by kernel_rfl) (by simp) ?_;refine AllReadyH.cons rfl (fun K d=> ?_) AllReadyH.nil;refine jZ 147 9 5 (.tmp 11) [3] A.heap.size 0 1 1 underlying147 underlying5 underlying9 G.range rfl (.string ⟨#[3]⟩) rfl rfl rfl ?_;refine d.out _ _ (trivial) (fun a=> ?_);clear d K b;have b:=a;clear a
   (try go_frame)
   have h:¬9223372036854775807<1+t.size:=by have:=o.out;have:=B.out;omega
   refine hp 4 ?_;obtain⟨i,g⟩:∃i:ByteArray,i=ByteArray.mk #[3]++t:=⟨_,rfl⟩;rw[←g];have q:=hid (show i.size=1+t.size by rw[g,ByteArray.size_append];rfl);have r:=hid (show aj i ([3]++dl s.data.toList) by rw[g];exact(show aj (ByteArray.mk #[3]) [3]from rfl).append u.out);clear g;refine wpAnyH_ready (rs:=[5]) (by kernel_rfl) (by simp) ?_;refine AllReadyH.cons rfl (fun K d=> ?_) AllReadyH.nil;go_simp
   refine(fU i 4096 _ (by have:=q.out;have:=o.out;have:=B.out;omega) (by decide)).mono ?_
   rintro e J ⟨z,rfl,D,p⟩;have m:=hid (c.trans (p.mono c.size));have v:=hid (show aj z (holdL s.data.toList)from D.cast (by unfold holdL;rw[show i.data.toList= _ from r.out]));clear D p h
   (try go_wp2_with fail)
   refine d.out _ _ (trivial) (fun a=> ?_);clear d K b;have b:=a;clear a
   (try go_frame)
   refine hp 6 ?_;refine hp 7 ?_;refine hp 8 ?_;refine hp 9 ?_;refine wpAnyH_done (by kernel_rfl) ?_ _;clear b;go_wp2_with fail;go_ret2;exact⟨⟨z,rfl,v.out⟩,m.out⟩
 ·go_simp
  refine(fe s _ (by have:=B.out;omega)).mono ?_
  rintro e E ⟨t,rfl,y,k⟩;have u:=hid y;have c:=hid (j.trans (k.mono j.size));have h:t.size=4+s.size:=by rw[y.size,cp];rfl
  have o:=hid h
  skip
  clear y k h
  (try go_wp2_with fail)
  refine d.out _ _ (trivial) (fun a=> ?_);clear d K b;have b:=a;clear a
  (try go_frame)
  refine wpAnyH_ready (rs:=[0]) (by kernel_rfl) (by simp) ?_;refine AllReadyH.cons rfl (fun K d=> ?_) AllReadyH.nil;go_simp;obtain⟨wa,l⟩:∃H,H=E.alloc (Obj.cells #[.int .u8 3] 5):=⟨_,rfl⟩;rw[←l];have x:Below E.heap.size E wa:=by rw[l];exact(Below.refl _ _).alloc (Nat.le_refl _) _
  have F:ac wa E.heap.size (bytesV [3]) 5:=by rw[l];exact ac.new E _ _
  have n:=hid F;have f:=hid (c.trans (x.mono c.size));clear x F l
  (try go_wp2_with fail)
  refine d.out _ _ (trivial) (fun a=> ?_);clear d K b;have b:=a;clear a
  (try go_frame)
  refine wpAnyH_ready (rs:=[1]) (by kernel_rfl) (by simp) ?_;refine AllReadyH.cons rfl (fun K d=> ?_) AllReadyH.nil;refine jZ 147 9 5 (.tmp 11) [3] E.heap.size 0 1 1 underlying147 underlying5 underlying9 n.range rfl (.string ⟨#[3]⟩) rfl rfl rfl ?_;refine d.out _ _ (trivial) (fun a=> ?_);clear d K b;have b:=a;clear a
  (try go_frame)
  have h:¬9223372036854775807<1+t.size:=by have:=o.out;have:=B.out;omega
  refine hp 4 ?_;obtain⟨i,g⟩:∃i:ByteArray,i=ByteArray.mk #[3]++t:=⟨_,rfl⟩;rw[←g];have q:=hid (show i.size=1+t.size by rw[g,ByteArray.size_append];rfl);have r:=hid (show aj i ([3]++dl s.data.toList) by rw[g];exact(show aj (ByteArray.mk #[3]) [3]from rfl).append u.out);clear g;refine wpAnyH_ready (rs:=[5]) (by kernel_rfl) (by simp) ?_;refine AllReadyH.cons rfl (fun K d=> ?_) AllReadyH.nil;go_simp
  refine(fU i 4096 _ (by have:=q.out;have:=o.out;have:=B.out;omega) (by decide)).mono ?_
  rintro e J ⟨z,rfl,D,p⟩;have m:=hid (f.trans (p.mono f.size));have v:=hid (show aj z (holdL s.data.toList)from D.cast (by unfold holdL;rw[show i.data.toList= _ from r.out]));clear D p h
  (try go_wp2_with fail)
  refine d.out _ _ (trivial) (fun a=> ?_);clear d K b;have b:=a;clear a
  (try go_frame)
  refine hp 6 ?_;refine hp 7 ?_;refine hp 8 ?_;refine hp 9 ?_;refine wpAnyH_done (by kernel_rfl) ?_ _;clear b;go_wp2_with fail;go_ret2;exact⟨⟨z,rfl,v.out⟩,m.out⟩
theorem pB (w:World):Sem.run prog (zeroValue 61) w= .ok (.agg (ay.cells ⟨Rec.zero,⟨#[]⟩⟩).toArray) w:=by kernel_rfl
theorem iN {x:ay}:(prog.info? 61).map (·.size)=some x.cells.length:=by kernel_rfl
theorem jG (x:ay):∀v∈x.cells,v.oneCell'=true:=by intro v a;simp[ay.cells]at a;rcases a with rfl|rfl|rfl|rfl|rfl|rfl|rfl|rfl|rfl<;>rfl
theorem Gz (r:Rec) (t:ByteArray):prog.built 61 [(0, .agg r.cells.toArray),(1, .string t)]=some (ay.cells ⟨r,t⟩).toArray:=by obtain⟨a,b,c,d,e,f,g,h⟩:=r;kernel_rfl
theorem xA (i:ar) (v:ak) (r:Rec) (w:World) (h:am w i v) (U:i.rv= .pointer none) (hk:v.key.size=32) (H:iW (cC v.sealed) (v.sealed.length:Int) r) (k:r.root.size≤1048576) (j:r.name.size≤1048576) (hf:Fits r.epoch) (T:v.sealed.length≤1048576):
  Calls prog 81 #[.pointer (some ⟨i.vb,0,none⟩),r.v] w fun e w'=>(∃t bl,e= .returned (.tuple #[.agg (ay.cells ⟨r,t⟩).toArray, .string bl])∧aj t (iL v.key.data.toList (cC v.sealed).data.toList (v.sealed.length:Int) r)∧aj bl (holdL (cI r++t.data.toList)))∧Below w.heap.size w w':=by
 have HK:=hid (show v.key.size=32∧iW (cC v.sealed) (v.sealed.length:Int) r from⟨hk,H⟩);have D:=hid (show(r.root.size≤1048576∧r.name.size≤1048576)∧Fits r.epoch∧Fits (v.sealed.length:Int)from⟨⟨k,j⟩,hf,by unfold Fits;omega⟩);have E:=hid U;have aq:=hid T;have N:=hid H.2.2.2;have H0:=hid h;obtain⟨sp,sc,V⟩:=aD h.sealed;have l:=hid V;clear hk H k j hf T h U V;go_enter func81,ntmps81
 go_upto_region 1 with(first
  |((with_reducible refine ae 59 (.tmp 1) r.cells (some 3) ?hgd ?ho ?hd ?hx ?_);(case hgd|ho|hd|hx=>rfl);(intro Y w1 l1 B1 e1 z1))
  |((with_reducible refine ab 61 _ pB (some 4) ?hgd ?ho ?hd ?_);(case hgd|ho|hd=>rfl);(intro b4 w2 l2 B2 e2 z2))
  |fail)
 have F:=hid (B1.below e2 (by omega));have I:=hid B2;have an:=hid (show w.heap.size≤b4 from by omega);have c:=hid ((e1.mono l1).trans (e2.mono (by omega)));have W:=hid (H0.below c.out);clear B1 B2 e1 e2 l1 l2 z1 z2;refine wp_region_held_drew (S:=fun wx=>wx.rangeAt Y 0 r.cells∧wx.cell? ⟨i.vb,7,none⟩=some (.pointer none)∧wx.cell? ⟨i.vb,1,none⟩=some (.string v.key)∧wx.cell? ⟨i.vb,4,none⟩=some (.slice sp v.sealed.length sc)) (by kernel_rfl) (⟨F.drew.range,(by rw[←E.out];exact W.vol.drew.cell (i:=7) rfl),W.vol.drew.cell (i:=1) rfl,(by rw[←l.out];exact W.vol.drew.cell (i:=4) rfl)⟩) (fun b=> ?_);obtain⟨wd,p⟩:∃wd,wd=w2.drew:=⟨_,rfl⟩;have d:Below w2.heap.size w2 wd:=by rw[p];exact(Below.refl _ _).drew
 have Hd:=hid (W.below d);have Q:=hid (F.below d F.lt);have s:=hid (I.below d I.lt);have A:=hid (c.trans (d.mono c.size));rw[←p];rw[←p]at b;clear p d;refine hp 0 ?_;refine hp 1 ?_;refine hp 2 ?_;refine hp 3 ?_;refine hp 4 ?_;refine hp 5 ?_;refine hp 6 ?_;refine hp 7 ?_;refine hp 8 ?_;refine hp 9 ?_;refine hp 10 ?_;refine hp 11 ?_;refine hp 13 ?_;refine hp 14 ?_;refine hp 15 ?_;refine hp 16 ?_;refine hp 17 ?_;refine wpAnyH_take (i:=18) (v:= .agg (r.cells).toArray) rfl (by kernel_rfl) (by kernel_rfl) (by kernel_rfl) (fun _ _ _ h=>h) (yieldsIf_load_mid (by rfl) 59 (.tmp 3) rfl Y 0 rfl (r.cells) _ (fun w h=>h.1) underlying59 rfl cF) (by assumption) ?_
 (try go_frame)
 refine wpAnyH_ready (rs:=[12]) (by kernel_rfl) (by simp) ?_;refine AllReadyH.cons rfl (fun K R=> ?_) AllReadyH.nil;go_simp
 refine(uy (.slice sp v.sealed.length sc) v.sealed _ (dh.own (by rw[←l.out];exact Hd.sealed) rfl) aq.out).mono ?_
 rintro e we ⟨rfl,f⟩;have X:=hid (Hd.below f);have G:=hid (Q.below f Q.lt);have u:=hid (s.below f s.lt);have B:=hid (A.trans (f.mono A.size));clear f
 (try go_wp2_with fail)
 refine R.out _ _ (⟨G.range,(by rw[←E.out];exact X.vol.cell (i:=7) rfl),X.vol.cell (i:=1) rfl,(by rw[←l.out];exact X.vol.cell (i:=4) rfl)⟩) (fun a=> ?_);clear R K b;have b:=a;clear a
 (try go_frame)
 refine wpAnyH_ready (rs:=[19]) (by kernel_rfl) (by simp) ?_;refine AllReadyH.cons rfl (fun K R=> ?_) AllReadyH.nil;go_simp
 refine(Ab v.key (cC v.sealed) (v.sealed.length:Int) r _ HK.out.1 HK.out.2 D.out.1.1 D.out.1.2 D.out.2.1 D.out.2.2).mono ?_
 rintro e wf ⟨⟨t,rfl,tt⟩,g⟩;have O:=hid tt;have Hf:=hid (X.below g);have m:=hid (G.below g G.lt);have x:=hid (u.below g u.lt);have C:=hid (B.trans (g.mono B.size));clear g tt
 (try go_wp2_with fail)
 refine R.out _ _ (⟨m.range,(by rw[←E.out];exact Hf.vol.cell (i:=7) rfl),Hf.vol.cell (i:=1) rfl,(by rw[←l.out];exact Hf.vol.cell (i:=4) rfl)⟩) (fun a=> ?_);clear R K b;have b:=a;clear a
 (try go_frame)
 refine hp 20 ?_;refine wpAnyH_done (by kernel_rfl) ?_ _;clear b
 go_wp2_with (first
  |((with_reducible refine al 59 (.tmp 3) Y r.cells 59 _ m.out underlying59 rfl cF ?hgd ?ho ?hx ?_);(case hgd|ho|hx=>rfl))
  |fail)
 refine(rW r _ D.out.1.1 D.out.1.2 D.out.2.1).mono ?_
 rintro e w5 ⟨he,n⟩
 obtain⟨q,rfl,Z⟩:∃q,e= .returned (.tuple #[.string q, .int .i64 0])∧aj q (cI r):=by
  rcases he with⟨_,h⟩|⟨h,_⟩
  ·exact h
  ·rw[N.out]at h;cases h
 have b1:=hid Z;have P:=hid (m.below n m.lt);have J:=hid (x.below n x.lt);have y:=hid (C.trans (n.mono C.size));have a5:t.size=32:=by rw[O.size,dt]
 have a4:q.size≤85:=by rw[Z.size];exact eR N.out
 have bk:¬9223372036854775807<q.size+t.size:=by omega
 have M:=hid (show 1≤(q++t).size∧(q++t).size≤4000 from by rw[ByteArray.size_append];omega);have aA:=hid (show(q++t).data.toList=cI r++t.data.toList from by rw[ByteArray.data_append,Array.toList_append,show q.data.toList= _ from Z]);clear he n Z a5 a4;go_wp2_with fail
 refine(hold_walk (q++t) _ M.out.1 M.out.2).mono ?_
 rintro e w6 ⟨⟨z,rfl,tz⟩,o⟩;have a0:=hid tz;have a1:=hid (P.below o P.lt);have ah:=hid (J.below o J.lt);have L:=hid (y.trans (o.mono y.size));clear o tz
 go_wp2_with (first
  |((with_reducible refine al 59 (.tmp 3) Y r.cells 59 _ a1.out underlying59 rfl cF ?hgd ?ho ?hx ?_);(case hgd|ho|hx=>rfl))
  |((with_reducible refine av 61 ?parts45 (ay.cells ⟨r,t⟩) ?hg ?ho ?hf ?_);(case hg|ho=>rfl);(case hf=>(refine Eq.trans ?_ (Gz r t);kernel_rfl)))
  |((with_reducible refine aa 61 (.tmp 4) (.tmp 45) b4 (ay.cells ⟨Rec.zero,⟨#[]⟩⟩) (ay.cells ⟨r,t⟩) 61 ah.out rfl iN (jG _) ?hgd ?ho ?hx ?hy ?_);(case hgd|ho|hx|hy=>rfl);(intro w9 B9 o9))
  |fail)
 (try simp only[Exit.inBlock,Exit.then]);refine bodyPost_ret (aE rfl _ _ B9.range rfl underlying61 rfl iN) rfl ⟨⟨t,z,rfl,O.out,a0.cast (by rw[aA.out])⟩,o9.below L.out an.out⟩
open Go.Maps Go.WideMaps
def pC (ep:Int) (c:aw):Int→Option (List UInt8):=fun j=>if j=c.lba then some (fB ep c.slot c.cipher.data.toList)else none
theorem KQ (ep:Int) (c:aw):iZ (tf ep c 1) (pC ep c):=iZ.none.put _ _
theorem GA (ep:Int) (c:aw):gk (pC ep c):=gk.none.put _ _ (mH _ _ _)
def zn (ep:Int) (c:aw):ap:=⟨c.lba,⟨(fB ep c.slot c.cipher.data.toList).toArray⟩⟩
theorem D4 (ep:Int) (c:aw) (b:Nat) (hb:c.lba=(b:Int)):∀k,aC (pC ep c) k=if b<k then[zn ep c]else[]
 |0=>by simp[aC]
 |k+1=>by
  have ih:=D4 ep c b hb k
  by_cases e:k=b
  ·subst e
   have d:pC ep c (k:Int)=some (fB ep c.slot c.cipher.data.toList):=by unfold pC;rw[if_pos hb.symm]
   rw[mI d,ih,if_neg (by omega),if_pos (by omega)];unfold zn;rw[hb]
   rfl
  ·have d:pC ep c (k:Int)=none:=by unfold pC;rw[if_neg (by omega)]
   rw[nP d,ih]
   by_cases a:b<k
   ·rw[if_pos a,if_pos (by omega)]
   ·rw[if_neg a,if_neg (by omega)]
theorem sf (ep:Int) (c:aw) (a:0≤c.lba) (b:c.lba<4096):aC (pC ep c) 4096=[zn ep c]:=by
 rw[D4 ep c c.lba.toNat (by omega),if_pos (by omega)]
theorem vS (a B:Nat) (ep:Int) (c:aw) (w:World) (h:dR w a B 1 ep (tf ep c 1)):
  Calls prog 82 #[.pointer (some ⟨a,0,none⟩)] w fun e w'=>e= .returned (.int .i64 1)∧w=w':=qh a B 1 ep _ w h
def uB (ep:Int) (c:aw):List UInt8:=f7 (zn ep c)
theorem qJ (ep:Int) (c:aw):(uB ep c).length=32:=gj _
theorem yL (a B:Nat) (ep:Int) (c:aw) (w:World) (h:dR w a B 1 ep (tf ep c 1)) (b:0≤c.lba) (d:c.lba<4096):
  Calls prog 83 #[.pointer (some ⟨a,0,none⟩)] w fun e w'=>(∃s,e= .returned (.string s)∧aj s (uB ep c))∧Below w.heap.size w w':=by
 have f:=Aa a B 1 ep (tf ep c 1) (pC ep c) w h (KQ ep c) (GA ep c) (by rw[sf ep c b d];exact Nat.le_refl _);rw[sf ep c b d]at f;exact f
end Go.Proofs.YtadooplpfhdhcaaGreat
