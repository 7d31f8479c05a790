/- A new disk (chapter 8): New. Code that is walked in the body of a range over a function, by the laws of a plain walk: operation by operation, region by region. No program in sight. Format (chapter 25), of a new disk; a range over a function that hands nothing on. -/
import Derived.Test.YtadooplpfhdhcaaGreatQ4
import Derived.Deep.RegionLaw
import Derived.RangeFuncFrom
import Derived.RangeFuncCalls
import Derived.RangeFuncLeaves
import Derived.TacticsIn
import Derived.OrdersIn
import Derived.Still
import Derived.StillTail
import Derived.StillTailTactics
import Derived.WalkKit
import Derived.ProofKit
import Derived.Deep.MidRow
import Derived.Laws.StructEq
import Derived.Test.YtadooplpfhdhcaaGreatQ9
import Derived.RangeFuncNested
import Derived.RangeFuncBound
import Derived.Test.YtadooplpfhdhcaaGreatQ7
import Derived.IntWalk
set_option linter.unusedSimpArgs false
set_option linter.unusedVariables false
set_option maxRecDepth 100000
set_option maxHeartbeats 4000000
namespace Go.Proofs.YtadooplpfhdhcaaGreat
open Go Go.RowKit
open Go.Lib (hid)
open Go.Proofs.Tryz
theorem aC.blocked {u w w':World} {db:Nat} {d:am} {v:Value} {l:List ByteArray} (h:aC u db d) (p:w.ownsRow 0 9 1 v l.length (l.map .string)) (n:u.grownBy w d.bv.ownBlock) (hn:dW u d.bv.ownBlock v.ownBlock)
  (o:de db w w') (hb:ac w' db ({d with bv:=v,bs:=l}:am).cells 78):bg u w' db d {d with bv:=v,bs:=l}:=by
 have q:af (d.foot db) u w:=af.of_grown n (fun k b=>am.mem1 b);have j:af [db] w w':=o.turned (by simp)
 have c:v.ownBlock≠some db:=by
  intro m
  rcases hn with h1|h1
  ·exact h.n1 (by rw[←h1];exact m)
  ·have:=h1 db m;have:=h.blk.lt;omega
 refine⟨⟨hb,ay p j (fun k b e=>c (by simp at e;rw[b,e])), ?_,c,h.n2, ?_⟩, ?_, ?_⟩
 ·refine ay (S:=[db]) ?_ j (fun k b e=>h.n2 (by simp at e;rw[b,e]))
  exact ay (S:=d.bv.ownBlock.toList) h.rc (af.of_grown n (fun k b=>by simp[b])) (fun k b e=>h.n3 k (by simpa using e) b)
 ·intro g f i
  rcases hn with h1|h1
  ·exact h.n3 g (by rw[←h1];exact f) i
  ·have:=h1 g f;have:=(h.rc.lt g i).2;omega
 ·exact q.trans (j.mono (fun x a=>by simp at a;subst a;simp[am.foot]))
 ·intro x a
  simp only[am.foot,List.mem_cons,List.mem_append,Option.mem_toList,Option.mem_def]at a ⊢
  rcases a with a|a|a
  ·exact .inl (.inl a)
  ·rcases hn with h1|h1
   ·exact .inl (.inr (.inl (by rw[←h1];exact a)))
   ·exact .inr (h1 x a)
  ·exact .inl (.inr (.inr a))
def bT:ByteArray:=⟨(List.replicate 4096 0).toArray⟩
def bj (n:Nat) (v:Value):am:=⟨v,List.replicate n bT, .slice none 0 0,[],false,0⟩
theorem E2:prog.built 78 [(1, .bool true)]=some (bj 0 (.slice none 0 0)).cells.toArray:=by kernel_rfl
theorem vO (n:Nat) (w:World) (h8:8≤n) (h1:n≤1024):
  Calls prog 5 #[.int .i64 (n:Int)] w fun e w'=>(∃h v,e= .returned (.tuple #[.pointer (some ⟨h,0,none⟩), .int .i64 0])∧aC w' h (bj n v)∧∀x,x∈(bj n v).foot h→w.heap.size≤x)∧Below w.heap.size w w':=by
 obtain⟨j0,ji,N,O,P⟩:=info_parts sP;have a7:(8:Int)≤(n:Int):=by omega
 have a8:(n:Int)≤1024:=by omega
 go_enter func5,ntmps5
 go_wp2_with (first
  |((with_reducible refine au 78 ?parts ((bj 0 (.slice none 0 0)).cells) ?hg ?ho ?hf ?_);(case hg|ho=>rfl);(case hf=>exact E2))
  |((with_reducible refine ae 78 (.tmp 11) ((bj 0 (.slice none 0 0)).cells) (some 12) ?hgd ?ho ?hd ?hx ?_);(case hgd|ho|hd|hx=>rfl);(intro h w1 l1 V W z1))
  |fail)
 have z:aC w1 h (bj 0 (.slice none 0 0)):=⟨V,World.ownsRow_nil _ _ _ _,World.ownsRow_nil _ _ _ _,by simp[bj,Value.ownBlock],by simp[bj,Value.ownBlock],by simp[bj,Value.ownBlock]⟩;have HL:=hid l1;have a:=W.mono l1;clear V W z1;go_loopw [14] (fun i wr=>∃(k:Nat) (v:Value),k≤n∧i= .int .i64 k∧aC wr h (bj k v)∧(∀x,x∈(bj k v).foot h→w.heap.size≤x)∧Below w.heap.size w wr) (fun i _=>n-(intOf i).toNat)
 case atStart=>exact⟨0, .slice none 0 0,by omega,rfl,z,by intro x hx;simp[am.foot,bj,Value.ownBlock]at hx;subst hx;exact HL.out,a⟩
 case round=>
  clear z a;obtain⟨k,v,hk,rfl,X,Y,a⟩:=hrel;have r:=hid X;have E:=hid Y;have C:=hid a;clear X Y a
  by_cases a6:k<n
  ·have ad:(k:Int)<n:=by omega
   have c0:=r.blk.cell (i:=0) rfl;obtain⟨R,cv,K⟩:=sN r.out;have o:(bj k v).bs.length=k:=by simp[bj]
   rw[o]at K;have L:v= .slice R k cv:=K;subst L;have F:=hid o;clear K o;go_wp2_with fail
   go_region_law (first
    |(refine vC rfl _ _ 45 rfl j0 (.string ⟨#[]⟩) 16 underlying45 ji N O P rfl (by decide) rfl H.out ⟨q.heap.size,0,none⟩ 1 1 [.string s] rfl rfl (bI (ac.new q [.string s] 9)) (by intro u hu;simp at hu;subst hu;rfl) (by unfold maxLen;omega) (by omega) (Nat.zero_le _) ?_;intro v' T c b g;obtain⟨Q,S,M⟩:=az c;subst M;have B:=t.grown b (fun he=>r.n1 he.symm);have c8:=B.cell (i:=0) rfl;have f8:=B.free 0)
    |(go_simp;go_at_call 21;refine(kw 4096 _ (by decide)).mono ?_;rintro e q ⟨s,rfl,ts,m⟩;have TS:=hid ts;have f:=(r.below (Below.refl _ _).drew).below m;have G:=hid f;have A:q.ownsRow 0 9 1 (.slice R k cv) k ((List.replicate k bT).map .string):=(by have p:=f.rb;rw[F.out]at p;exact p);have H:=hid (World.ownsRow.alloc A (.cells #[.string s] 9));clear A;have t:=hid (f.blk.alloc (.cells #[.string s] 9));have c7:=f.blk.cell (i:=0) rfl;have I:=t.cell (i:=0) rfl;have d:=hid (C.drew.trans (m.mono C.drew.size));clear ts f m)
    |fail)
   all_goals
    have J:s=bT:=TS.of;have U:aC (q.alloc (.cells #[.string s] 9)) h (bj k (.slice R k cv)):=G.below ((Below.refl _ _).alloc (Nat.le_refl _) _)
    have hr:T.ownsRow 0 9 1 (.slice Q (k+1) S) (List.replicate (k+1) bT).length ((List.replicate (k+1) bT).map .string):=by
     rw[List.length_replicate,List.replicate_succ',List.map_append,←J];rw[←J]at c;exact c
    have Z:=U.blocked (w:=T) (v:= .slice Q (k+1) S) (l:=List.replicate (k+1) bT) hr b g ((de.refl h T).setCell 0 _) (B.set 0 _);have j:=hid Z;have y:=hid (show w.heap.size≤(q.alloc (.cells #[.string s] 9)).heap.size by have:=d.size;simp;omega);have D:=hid (show Below w.heap.size w (q.alloc (.cells #[.string s] 9))from d.alloc d.size _);clear J U hr Z c b g B c8 f8 c7 I;go_wp2_with fail;go_roundw
    case rel=>
     refine⟨k+1, .slice Q (k+1) S,by omega,by go_num,j.at',fun x hx=> ?_,j.turned.below D.out E.out y.out⟩
     rcases j.foot x hx with p|p
     ·exact E.out x p
     ·exact Nat.le_trans y.out p
    case measure=>simp[intOf];omega
  ·obtain rfl:k=n:=by omega
   go_wp2_with fail;go_ret2;exact⟨⟨h,v,rfl,r.out,E.out⟩,C.out⟩
section
variable {P:Program} {ops:Array Oper} {Q:Exit→Act→World→Prop} {a:Act} {w:World} {n r:Nat}
def Oper.calm (o:Oper):Bool:=match o.op with| .defer _=>false|_=>true
end
section
variable {P:Program} {ops:Array Oper} {rest:List Oper} {o:Oper} {a:Act} {w:World} {Q:Act→Prop}
theorem mM (f:TypeId) (x:Operand) (b off:Nat) (cs:List Value) (d:TypeDesc) (c:Option Tmp) (hb:w.rangeAt b off cs)
  (hu:P.underlying f=some d) (hd:d.isRow=true) (k:(P.info? f).map (·.size)=some cs.length)
  (j:Region.wanted o (yielded ops a.tmps)=true) (l:o.op= .load f x) (g:o.dst=c) (m:a.eval x= .pointer (some ⟨b,off,none⟩))
  (h:wpStill P ops w Q rest (a.put c (.agg cs.toArray))):wpStill P ops w Q (o::rest) a:=by
 subst g;refine wpStill_step (fun K i=> ?_);rw[if_pos j];unfold Go.Oper.still
 have e:(execOp a.eval o).run P w= .ok (.value (.agg cs.toArray)) w:=by
  unfold execOp;simp only[l,m,Instr.loadAt,Instr.sureAddr,Sem.run_bind,Sem.run_pure,Result.andThen_ok,run_loadVar_mid w b off f cs d hb hu hd k]
 rw[e,Go.Oper.stillUpon_value];exact i _ h
theorem sU (t l:TypeId) (x y:Operand) (xs b:Array Value) (r:Bool) (d:Option Tmp)
  (g:P.eqGuardType P.depth t=false) (j:(Op.equalIn 10000 t (.agg xs) (.agg b)).run P w= .ok r w)
  (f:Region.wanted o (yielded ops a.tmps)=true) (i:o.op= .binOp .neq t x y l) (hd:o.dst=d) (k:a.eval x= .agg xs) (hy:a.eval y= .agg b)
  (h:wpStill P ops w Q rest (a.put d (.bool (!r)))):wpStill P ops w Q (o::rest) a:=by
 subst hd;refine wpStill_step (fun K c=> ?_);rw[if_pos f];unfold Go.Oper.still
 have e:(execOp a.eval o).run P w= .ok (.value (.bool (!r))) w:=by
  unfold execOp;simp only[i,k,hy,Sem.run_bind,run_eqGuard_agg w _ t x y xs b g,Result.andThen_ok,run_neq_struct,j,Sem.run_pure]
 rw[e,Go.Oper.stillUpon_value];exact c _ h
end
theorem lz {P:Program} {g:Operand} {y:Array Tmp} {b f:Code} {Q:Exit→Act→World→Prop} {a:Act} {w:World} {gf:Nat} {lb:Array Value}
  (u:a.eval g= .func (.func gf) #[] lb) (k:∀args w,(callFunc gf args).run P w= .ok (.enter gf args) w)
  (hc:∀(l:Nat) (W:World),Below w.heap.size w W→Calls P gf (#[.func (.yield l) #[] #[]]++lb) W fun e i=>(∃v,e= .returned v)∧Below W.heap.size W i)
  (d:∀(D:Nat) (W:World),w.heap.size≤D→Below w.heap.size w W→W.heap[D]?=some (.deferred (some []))→Q .normal {a with defers:={target:= .collected D,args:=#[]}::a.defers} W):
  (Code.rangeFunc g y b f).wp P Q a w:=by
 refine(wpIn_wide (n:=4)).1 ?_
 refine wpIn_rangeFunc_ownF (α:=Empty) (encs:=fun x=>nomatch x) (Kp:=fun _ _=>True) (S:=fun _=>True) (Sp:=fun _=>False) (N:=0) (w0:=w) rfl (by omega) u trivial k ?hseq (fun _ _=>trivial) (fun _ _ _ _ _ _ _ _=>trivial) (Below.refl _ _) (fun x=>nomatch x)
  (fun _ W=>Below w.heap.size w W) (fun _ _ _=>False) (ownFrom_below (Nat.le_refl _) (Nat.le_refl _)) (fun c s W i z h=>h.elim) (Below.refl _ _) (fun x=>nomatch x) (fun l x=>nomatch x) (fun l j x=>nomatch x) (fun D xs W o _ h2 h3=>d D W o h2 h3) (fun D c j W _ h=>h.elim)
 case hseq=>
  intro l J A W t p q B m;exact callsIn_wide.2 ((hc l W t).mono (fun e i h=>⟨h.1, .inl ⟨[],trivial,p [] W i none m (below_grown h.2) (fun r e=>by cases e)⟩⟩))
def LP (P:Program) (fn:Func) (R:Ending→World→Prop):Exit→Act→World→Prop
 | .normal,a,w| .ret,a,w=>LeavesInM Fence.wide 4 P fn a.tmps R a.defers .returning w
 |_,_,_=>False
theorem nl {P:Program} {f:FuncId} {b:Func} {c:Code} {args:Array Value} {w:World} {R:Ending→World→Prop} (g:P.funcs[f]?=some b) (hb:b.body=some c)
  (h:c.wp P (LP P b R) {tmps:=args++Array.replicate (b.ntmps-args.size) undef,defers:=[]} w):Calls P f args w R:=by
 refine(callsIn_wide (n:=4)).1 (callsIn_of_wp_marks g hb trivial (wpIn_wide.2 (wp_mono h ?_)) rfl)
 intro e a w d
 cases e with
 |normal=>exact d
 |ret=>exact d
 |_=>exact d.elim
theorem np {w a:World} {D:Nat} {o:Obj} (h:w.heap[D]?=some o) (hb:Below w.heap.size w a):a.heap[D]?=some o:=by
 rw[hb.block D (Array.getElem?_eq_some_iff.1 h).1,h]
theorem pF {w a:World} {D:Nat} {o:Obj} {S:List Nat} (h:w.heap[D]?=some o) (hb:af S w a) (hn:D∉S):a.heap[D]?=some o:=by
 rw[hb.block D (Array.getElem?_eq_some_iff.1 h).1 hn,h]
theorem Js (w:World):Sem.run prog (zeroValue 26) w= .ok (.int .i64 0) w:=by kernel_rfl
theorem KA (w:World):Sem.run prog (zeroValue 98) w= .ok (.pointer none) w:=by kernel_rfl
theorem Lo:(prog.info? 98).map (·.size)=some 1:=by kernel_rfl
theorem KB:(prog.info? 26).map (·.size)=some 1:=by kernel_rfl
theorem E3 (a:Nat):prog.built 165 [(1, .pointer (some ⟨a,0,none⟩))]=some (bR (.pointer none) a .zero).toArray:=by kernel_rfl
def bz (n:Nat) (v:Value) (i:Nat) (kb q:ByteArray):am:=⟨v,((List.replicate n bT).set i kb).set 1 q, .slice none 0 0,[],false,0⟩
theorem xu (n:Nat) (v:Value) (i:Nat) (h:i<n):(bj n v).shown i=(⟨(List.replicate 4096 0).toArray⟩:ByteArray):=by
 show(List.replicate n bT).getD i ByteArray.empty=bT
 simp[List.getD,h]
theorem AL (db n f:Nat) (c:Int) (v:Value) (key:ByteArray) (w:World) (h:aC w db (bj n v)) (hg:cA (⟨(n:Int),c,(f:Int)⟩:aH)) (hk:key.size=32):
  Calls prog 31 #[.pointer (some ⟨db,0,none⟩),(⟨(n:Int),c,(f:Int)⟩:aH).v, .string key] w fun e w'=>e= .returned (.int .i64 0)∧∃kb q,ah kb (ew (f:Int) key.data.toList)∧ah q (cG ⟨1,0,f,0,(⟨(n:Int),c,(f:Int)⟩:aH)⟩)∧bg w w' db (bj n v) (bz n v (2+f % 2) kb q):=by
 have hq:∀(fn:Fn) (first ec:Array Value) (w:World),(Instr.makeFunc fn first ec).run prog w= .ok (.func fn first ec) w:=fun _ _ _ _=>rfl
 have hj:(key.size:Int)=32:=by omega
 have U:=hid h;have HG:=hid hg;have dT:=hid hk;have HN:=hid (show 8≤n∧n≤1024 from⟨by have:=hg.b0;simp only at this;omega,by have:=hg.b1;simp only at this;omega⟩);have HF:=hid (show f<4294967296 from by have:=hg.f1;simp only at this;omega);have go:=hid (Below.refl w.heap.size w);clear h hg hk;refine nl func31 rfl ?_;simp only[ntmps31,List.size_toArray,List.length_cons,List.length_nil,Nat.reduceAdd,Nat.reduceSub,Array.replicate_succ,Array.replicate_zero,List.push_toArray,List.append_toArray,List.nil_append,List.cons_append]
 go_wp2_with (first
  |((with_reducible refine ae 23 (.tmp 1) (aH.cells (⟨(n:Int),c,(f:Int)⟩:aH)) (some 4) ?hgd ?ho ?hd ?hx ?_);(case hgd|ho|hd|hx=>rfl);(intro b4 w1 l1 B1 e1 z1))
  |((with_reducible refine cd 26 (.int .i64 0) Js rfl (some 6) ?hgd ?ho ?hd ?_);(case hgd|ho|hd=>rfl);(intro b6 w2 l2 B2 e2 z2))
  |fail)
 have e8:=hid l1;have bo:=hid (Nat.le_trans l1 (Nat.le_of_lt (Nat.lt_of_lt_of_le z1 l2)));have z:=hid (B1.below e2 (Nat.lt_of_lt_of_le z1 l2));have cw:=hid B2;have bb:=hid ((e1.mono l1).trans (e2.mono bo.out));have c6:=hid (U.below bb.out);clear B1 B2 e1 e2 l1 l2 z1 z2;refine wp_region_held_drew (S:=fun wx=>wx.rangeAt b4 0 (aH.cells (⟨(n:Int),c,(f:Int)⟩:aH))∧wx.cell? ⟨b4,0,none⟩=some (.int .i64 (n:Int))) (by kernel_rfl) (⟨z.drew.range,z.drew.cell (i:=0) rfl⟩) (fun b=> ?_);obtain⟨wd,Q⟩:∃wd,wd=w2.drew:=⟨_,rfl⟩;have Z:=hid (show ac wd b4 (aH.cells (⟨(n:Int),c,(f:Int)⟩:aH)) 23 from by rw[Q];exact z.drew);have a2:=hid (show ac wd b6 [.int .i64 0] 26 from by rw[Q];exact cw.drew);have dc:=hid (show aC wd db (bj n v)from by rw[Q];exact c6.below (Below.refl _ _).drew);have bm:=hid (show Below w.heap.size w wd from by rw[Q];exact bb.drew);rw[←Q];rw[←Q]at b;clear Q;refine wpAnyH_take (i:=0) (v:= .agg (aH.cells (⟨(n:Int),c,(f:Int)⟩:aH)).toArray) rfl (by kernel_rfl) (by kernel_rfl) (by kernel_rfl) (fun _ _ _ h=>h) (yieldsIf_load_mid (by rfl) 23 (.tmp 4) rfl b4 0 rfl (aH.cells (⟨(n:Int),c,(f:Int)⟩:aH)) _ (fun w h=>h.1) underlying23 rfl bG) (by assumption) ?_
 (try go_frame)
 refine wpAnyH_ready (rs:=[1]) (by kernel_rfl) (by simp) ?_;refine AllReadyH.cons rfl (fun K t=> ?_) AllReadyH.nil;go_simp
 refine(fj (⟨(n:Int),c,(f:Int)⟩:aH) _ HG.out).mono ?_
 rintro e w3 ⟨rfl,bt⟩;have g:=hid (Z.below bt Z.lt);have G:=hid (a2.below bt a2.lt);have b8:=hid (dc.below bt);have J:=hid (bm.trans (bt.mono bm.size));clear bt
 (try go_wp2_with fail)
 refine t.out _ _ (⟨g.range,g.cell (i:=0) rfl⟩) (fun a=> ?_);clear t K b;have b:=a;clear a
 (try go_frame)
 refine hp 2 ?_;refine hp 3 ?_;refine hp 4 ?_;refine hp 5 ?_;refine hp 6 ?_;refine hp 7 ?_;refine hp 8 ?_;refine hp 9 ?_;refine hp 11 ?_;refine hp 12 ?_;refine wpAnyH_ready (rs:=[10]) (by kernel_rfl) (by simp) ?_;refine AllReadyH.cons rfl (fun K t=> ?_) AllReadyH.nil;go_simp
 refine(oV db _ _ b8.out).mono ?_
 rintro e w' ⟨rfl,rfl⟩;rw[show((bj n v).bs.length:Int)=(n:Int)from by rw[show(bj n v).bs=List.replicate n bT from rfl,List.length_replicate]]
 (try go_wp2_with fail)
 refine t.out _ _ (⟨g.range,g.cell (i:=0) rfl⟩) (fun a=> ?_);clear t K b;have b:=a;clear a
 (try go_frame)
 refine hp 13 ?_;refine hp 14 ?_;refine wpAnyH_done (by kernel_rfl) ?_ _;clear b
 go_wp2_with (first
  |((with_reducible refine au 165 ?parts (bR (.pointer none) db .zero) ?hg ?ho ?hf ?_);(case hg|ho=>rfl);(case hf=>exact E3 db))
  |((with_reducible refine ae 165 (.tmp 29) (bR (.pointer none) db .zero) (some 30) ?hgd ?ho ?hd ?hx ?_);(case hgd|ho|hd|hx=>rfl);(intro y w4 l4 B4 e4 z4))
  |((with_reducible refine cd 98 (.pointer none) KA rfl (some 7) ?hgd ?ho ?hd ?_);(case hgd|ho|hd=>rfl);(intro b7 w5 l5 B5 e5 z5))
  |((with_reducible refine iI 98 (.tmp 7) (.tmp 30) b7 0 (.pointer (some ⟨y,0,none⟩)) [.pointer none] 98 B5 (by decide) Lo rfl ?hgd ?ho ?hx ?hy ?_);(case hgd|ho|hx|hy=>rfl);(intro w6 B6 o6))
  |fail)
 have f2:w.heap.size≤w3.heap.size:=J.size;have bx:=hid (show w.heap.size≤y by omega);have ci:=hid (show b6≠y by have:=G.lt;omega);have e9:=hid (show w.heap.size≤b7 by omega);have d:Below w3.heap.size w3 w6:=o6.below ((e4.mono l4).trans (e5.mono (by omega))) (by omega);have A:=hid (g.below d g.lt);have an:=hid (G.below d G.lt);have b9:=hid (b8.below d);have bd:=hid (J.trans (d.mono J.size));have a4:=hid B6;have cb:=hid (o6.blk (B4.below e5 (by omega)) (by omega));clear d B4 B5 B6 e4 e5 o6 l4 l5 z4 z5 f2
 refine(uD db _ _ b9.out).mono ?_
 rintro e w7 ⟨rfl,rfl⟩;have q0:=A.cell (i:=0) rfl;go_wp2_with fail
 refine(r7 db 0 (n:Int) _).mono ?_
 rintro e w8 ⟨⟨pf,pt,pd,rfl,hu⟩,N⟩;have X:=hid (A.below N A.lt);have aq:=hid (an.below N an.lt);have a5:=hid (a4.below N a4.lt);have bn:=hid (cb.below N cb.lt);have ca:=hid (b9.below N);have L:=hid (bd.trans (N.mono bd.size));have HU:=hid hu;clear hu N q0;go_wp2_with fail;refine lz rfl (enters_of func185 (by kernel_rfl) rfl) ?_ ?_
 ·intro l W hW
  exact(qL _ db pf pt pd (bj n v) 0 n W (ca.below hW) (HU.below hW) (Nat.zero_le _) (by show n≤(List.replicate n bT).length;rw[List.length_replicate];exact Nat.le_refl _) rfl (by show 0≤4096;decide) (by show(List.replicate n bT).length≤1024;rw[List.length_replicate];exact HN.out.2) (fun i _ hi=>xu n v i hi)).mono (fun e W' h=>⟨⟨_,h.1⟩,h.2⟩)
 intro D w9 hD O ep;have bw:=hid (Nat.le_trans L.size hD);have ck:=hid (show D≠y by have:=bn.lt;omega);have B:=hid (X.below O X.lt);have aA:=hid (aq.below O aq.lt);have a6:=hid (a5.below O a5.lt);have cc:=hid (bn.below O bn.lt);have c7:=hid (ca.below O);have be:=hid (L.trans (O.mono L.size));have d0:=hid ep;clear hD O ep;have q2:=B.cell (i:=2) rfl;go_wp2_with fail
 refine(lx f key _ HF.out dT.out).mono ?_
 rintro e wk ⟨kb,rfl,tk,u⟩;have ea:=hid tk;have ad:=hid (B.below u B.lt);have cy:=hid (aA.below u aA.lt);have a9:=hid (a6.below u a6.lt);have dv:=hid (cc.below u cc.lt);have ds:=hid (c7.below u);have cz:=hid (be.trans (u.mono be.size));have d6:=hid (np d0.out u);clear tk u q2;go_wp2_with fail;refine wp_region_held_drew (S:=fun wx=>wx.cell? ⟨b4,2,none⟩=some (.int .i64 (f:Int))∧wx.cell? ⟨b7,0,none⟩=some (.pointer (some ⟨y,0,none⟩))) (by kernel_rfl) (⟨ad.drew.cell (i:=2) rfl,a9.drew.cell (i:=0) rfl⟩) (fun b=> ?_);obtain⟨we,o⟩:∃we,we=wk.drew:=⟨_,rfl⟩;have F:=hid (show ac we b4 (aH.cells (⟨(n:Int),c,(f:Int)⟩:aH)) 23 from by rw[o];exact ad.drew);have a3:=hid (show ac we b6 [.int .i64 0] 26 from by rw[o];exact cy.drew);have I:=hid (show ac we b7 [.pointer (some ⟨y,0,none⟩)] 98 from by rw[o];exact a9.drew);have cf:=hid (show ac we y (bR (.pointer none) db .zero) 165 from by rw[o];exact dv.drew);have dg:=hid (show aC we db (bj n v)from by rw[o];exact ds.below (Below.refl _ _).drew);have M:=hid (show Below w.heap.size w we from by rw[o];exact cz.drew);have d5:=hid (show we.heap[D]?=some (.deferred (some []))from by rw[o];exact d6.out);rw[←o];rw[←o]at b;clear o;refine hp 0 ?_;refine hp 1 ?_;refine hp 2 ?_;refine hp 3 ?_;refine hp 4 ?_;refine hp 5 ?_;refine hp 7 ?_;refine hp 9 ?_;refine hp 10 ?_;refine wpAnyH_ready (rs:=[6]) (by kernel_rfl) (by simp) ?_;refine AllReadyH.cons rfl (fun K t=> ?_) AllReadyH.nil;go_simp
 refine(iT (f:Int) _ (by omega)).mono ?_
 rintro e w' ⟨rfl,rfl⟩
 (try go_wp2_with fail)
 refine t.out _ _ (⟨F.cell (i:=2) rfl,I.cell (i:=0) rfl⟩) (fun a=> ?_);clear t K b;have b:=a;clear a
 (try go_frame)
 refine wpAnyH_ready (rs:=[8]) (by kernel_rfl) (by simp) ?_;refine AllReadyH.cons rfl (fun K t=> ?_) AllReadyH.nil;go_simp
 refine(fZ y (2+(f:Int) % 2) kb _).mono ?_
 rintro e wa ⟨⟨p3,p4,p5,rfl,bA,g3,g4,g5⟩,d⟩;have C:=hid (F.below d F.lt);have a0:=hid (a3.below d a3.lt);have H:=hid (I.below d I.lt);have ce:=hid (cf.below d cf.lt);have c8:=hid (dg.below d);have bk:=hid (M.trans (d.mono M.size));have d8:=hid bA;have e7:=hid (And.intro g3 (And.intro g4 g5));have fb:=hid d.size;have d3:=hid (np d5.out d);clear bA g3 g4 g5 d
 (try go_wp2_with fail)
 refine t.out _ _ (⟨C.cell (i:=2) rfl,H.cell (i:=0) rfl⟩) (fun a=> ?_);clear t K b;have b:=a;clear a
 (try go_frame)
 refine wpAnyH_ready (rs:=[11]) (by kernel_rfl) (by simp) ?_;refine AllReadyH.cons rfl (fun K t=> ?_) AllReadyH.nil;go_simp;obtain⟨wb,b3⟩:∃wb,wb=wa.alloc (Obj.cells #[.func (.func 100) #[.pointer (some ⟨db,0,none⟩)] #[], .func (.func 187) #[] #[.pointer (some ⟨p3,0,none⟩), .pointer (some ⟨p4,0,none⟩), .pointer (some ⟨p5,0,none⟩)], .func (.func 100) #[.pointer (some ⟨db,0,none⟩)] #[]] 42):=⟨_,rfl⟩;rw[←b3];have r:Below wa.heap.size wa wb:=by rw[b3];exact(Below.refl _ _).alloc (Nat.le_refl _) _
 have co:ac wb wa.heap.size [.func (.func 100) #[.pointer (some ⟨db,0,none⟩)] #[], .func (.func 187) #[] #[.pointer (some ⟨p3,0,none⟩), .pointer (some ⟨p4,0,none⟩), .pointer (some ⟨p5,0,none⟩)], .func (.func 100) #[.pointer (some ⟨db,0,none⟩)] #[]] 42:=by rw[b3];exact ac.new wa [.func (.func 100) #[.pointer (some ⟨db,0,none⟩)] #[], .func (.func 187) #[] #[.pointer (some ⟨p3,0,none⟩), .pointer (some ⟨p4,0,none⟩), .pointer (some ⟨p5,0,none⟩)], .func (.func 100) #[.pointer (some ⟨db,0,none⟩)] #[]] 42
 have Y:=hid (C.below r C.lt);have cx:=hid (a0.below r a0.lt);have a7:=hid (H.below r H.lt);have R:=hid (ce.below r ce.lt);have c9:=hid (c8.below r);have bl:=hid (bk.trans (r.mono bk.size));have d7:=hid co;have d9:=hid (d8.below r);have d4:=hid (np d3.out r);clear co r b3
 (try go_wp2_with fail)
 refine t.out _ _ (⟨Y.cell (i:=2) rfl,a7.cell (i:=0) rfl⟩) (fun a=> ?_);clear t K b;have b:=a;clear a
 (try go_frame)
 refine wpAnyH_ready (rs:=[12]) (by kernel_rfl) (by simp) ?_;refine AllReadyH.cons rfl (fun K t=> ?_) AllReadyH.nil;go_simp
 refine(Au y db wa.heap.size 3 p3 p4 p5 42 (bj n v) (2+(f:Int) % 2) kb _ c9.out d7.out (R.cell (i:=1) rfl) R.lt d9.out (by
  intro x hx P;have hl:=U.lt x P;have h1:=e7.out;have h2:=fb.out;have h3:=M.size;have h4:=bx.out
  rcases hx with rfl|rfl|rfl|rfl|rfl<;>omega) rfl rfl (by show 0<4096;decide) (by show(List.replicate n bT).length≤1024;rw[List.length_replicate];exact HN.out.2) (by intro j p hp;simp[bj]at hp) (by omega) (by show _<((List.replicate n bT).length:Int);rw[List.length_replicate];have:=HN.out.1;omega) (by rw[ea.size,nM (by simpa using dT.out)])).mono ?_
 rintro e wc ⟨rfl,d',fw,ht⟩;have V:∀x,w.heap.size≤x→x∉(bj n v).foot db:=fun x hx P=>by have:=U.lt x P;omega
 have E:=hid (ht.turned.blk Y.out (V b4 e8.out));have a1:=hid (ht.turned.blk cx.out (V b6 bo.out));have a8:=hid (ht.turned.blk a7.out (V b7 e9.out));have dt:=hid (ht.turned.blk R.out (V y bx.out));have cg:=hid (pF d4.out ht.turned (V D bw.out));have HT:=hid ht;subst fw;clear ht V
 (try go_wp2_with fail)
 refine t.out _ _ (⟨E.cell (i:=2) rfl,a8.cell (i:=0) rfl⟩) (fun a=> ?_);clear t K b;have b:=a;clear a
 (try go_frame)
 refine hp 13 ?_;refine wpAnyH_done (by kernel_rfl) ?_ _;clear b;have q7:=a8.cell (i:=0) rfl;have q2:=E.cell (i:=2) rfl
 go_wp2_with (first
  |((with_reducible refine ao 23 (.tmp 4) b4 0 (aH.cells (⟨(n:Int),c,(f:Int)⟩:aH)) _ (some 74) E.out.range underlying23 rfl bG ?hg ?ho ?hds ?hx ?_);(case ho|hg|hds|hx=>rfl))
  |((with_reducible refine au 163 ?parts (aF.cells ⟨1,0,f,0,(⟨(n:Int),c,(f:Int)⟩:aH)⟩) ?hg ?ho ?hf ?_);(case hg|ho=>rfl);(case hf=>kernel_rfl))
  |fail)
 clear q7 q2;obtain⟨T,s⟩:∃T:am,T=(({(bj n v).flushed with cs:=[(2+(f:Int) % 2,kb)]}:am)).flushed:=⟨_,rfl⟩;have hb:=hid s;have b2:=hid (show bg wb wc db (bj n v) T from by rw[s];exact HT.out);have x1:T.down=false:=by rw[s];rfl
 have x2:T.left=0:=by rw[s];rfl
 have x3:T.cs=[]:=by rw[s];rfl
 have x4:T.bs=(List.replicate n bT).set (2+f % 2) kb:=by
  rw[s]
  show(List.replicate n bT).set (2+(f:Int) % 2).toNat kb= _
  rw[show(2+(f:Int) % 2).toNat=2+f % 2 by omega]
 have x5:T.bs.length=n:=by rw[x4,List.length_set,List.length_replicate]
 have x6:T.bv=v:=by rw[s];rfl
 have x7:T.cv= .slice none 0 0:=by rw[s];rfl
 clear s HT;have hn:=HN.out
 refine(mK y db (.pointer none) T .zero ⟨1,0,f,0,(⟨(n:Int),c,(f:Int)⟩:aH)⟩ _ b2.at' dt.out (fun P=>(b2.foot y P).elim (fun m=>by have:=U.lt y m;have:=bx.out;omega) (fun m=>by have:=R.lt;omega))
  ⟨HG.out,(by show(1:Int)≤1;decide),(by show(1:Int)≤1152921504606846976;decide),(by show(0:Int)≤0;decide),by show(0:Int)≤(n:Int)-4;omega,Int.le_refl _,by show(f:Int)<4294967296;have:=HF.out;omega,(by show(0:Int)≤0;decide),(by show(0:Int)≤1099511627776;decide)⟩ x1 x2 (by rw[x3];decide) (by rw[x5];exact hn.2) (by rw[x5];omega) (by intro j p hp;rw[x3]at hp;simp at hp)).mono ?_
 rintro e wf ⟨rfl,d2,q,fz,tq,fs,hh,c2,en⟩;have fv:=bl.size;have h0:=bl.out;have et:af ((bj n v).foot db) w wc:=(af.of_below h0 (Nat.le_refl _)).trans b2.turned;have el:∀x,x∈T.foot db→x∈(bj n v).foot db∨w.heap.size≤x:=fun x hx=>(b2.foot x hx).elim .inl (fun m=> .inr (Nat.le_trans fv m))
 have f0:af ((bj n v).foot db) w wf:=et.on c2 (fun x hx=>by
  simp only[List.mem_cons]at hx
  rcases hx with rfl|hx
  ·exact .inr bx.out
  ·exact el x hx)
 have em:∀x,x∈d2.foot db→x∈(bj n v).foot db∨w.heap.size≤x:=fun x hx=>(en x hx).elim (fun m=>el x m) (fun m=> .inr (Nat.le_trans et.size m))
 have x8:T.foot db=(bj n v).foot db:=by unfold am.foot;rw[x6,x7];rfl
 have c0:∀x,w.heap.size≤x→x≠y→x∉y::T.foot db:=fun x h1 h3 P=>by
  simp only[List.mem_cons]at P
  rcases P with rfl|P
  ·exact h3 rfl
  ·rw[x8]at P
   have:=U.lt x P
   omega
 have e2:d2=bz n v (2+f % 2) kb q:=by
  rw[fz];unfold am.flushed bz;simp only[x3,List.nil_append,List.length_singleton,eT,x6,x4,x1,x2]
  rfl
 have cu:=c2.blk a1.out (c0 b6 bo.out ci.out);have cW:=pF cg.out c2 (c0 D bw.out ck.out);have hs:b6<wf.heap.size:=cu.lt;have hr:∀x,w.heap.size≤x→x∉(bj n v).foot db:=fun x hx P=>by have:=U.lt x P;omega
 have eg:D≠b6:=fun m=>by
  subst m;have ef:=cu;unfold ac at ef;rw[ef]at cW
  cases cW
 go_wp2_with (first
  |((with_reducible refine iI 26 (.tmp 6) (.tmp 76) b6 0 (.int .i64 0) [.int .i64 0] 26 cu (by decide) KB rfl ?hgd ?ho ?hx ?hy ?_);(case hgd|ho|hx|hy=>rfl);(intro wg Bg og))
  |fail)
 have fT:wg.heap[D]?=some (.deferred (some [])):=by rw[og.block D eg];exact cW
 refine⟨by simp, .inl ⟨_,_,rfl,run_takeDeferred fT, ?_⟩⟩;have fI:=grownBy_putObj' wg D (.deferred none);have ex:af [b6] wf wg:=og.turned (by simp);have c3:af [D] wg (wg.putObj D (.deferred none)):=af.of_grown fI (fun k e=>by cases e;simp);have r6:(wg.putObj D (.deferred none)).cell? ⟨b6,0,none⟩=some (.int .i64 0):=(c3.blk Bg (by simp;exact fun m=>eg m.symm)).cell (i:=0) rfl
 have eq:∀x,w.heap.size≤x→x≠y→x<wc.heap.size→x∉d2.foot db:=fun x h1 h2 h3 P=>by
  rcases en x P with m|m
  ·exact c0 x h1 h2 (by simp[m])
  ·omega
 have er:=eq b6 bo.out ci.out a1.lt;have es:=eq D bw.out ck.out (Array.getElem?_eq_some_iff.1 cg.out).1;have ej:aC wg db d2:=fs.turned ex (fun x hx m=>by simp at m;subst m;exact er hx);have cm:aC (wg.putObj D (.deferred none)) db d2:=ej.turned c3 (fun x hx m=>by simp at m;subst m;exact es hx);rw[e2]at cm em;refine⟨.int .i64 0, ?_,rfl,kb,q,ea.out,tq,cm,(f0.on ex (fun x hx=>by simp at hx;subst hx;exact .inr bo.out)).on c3 (fun x hx=>by simp at hx;subst hx;exact .inr bw.out),em⟩;simp[results,f31,go_sem,r6]
theorem iU (c d:Nat) (sv:Value) (a:aF) (i:Int) (w:World) (h:ac w c (bR sv d a) 165) (hg:cA a.geo) (f:0≤i) (g:i<a.geo.blocks-4):
  Calls prog 162 #[.pointer (some ⟨c,0,none⟩), .int .i64 i] w fun e w'=>e= .returned (.int .i64 (4+i))∧Below w.heap.size w w':=by
 have k:w.rangeAt c 6 a.geo.cells:=by
  intro j v b
  match j,b with
  |0,b=>simp[aH.cells]at b;subst b;exact h.cell (i:=6) rfl
  |1,b=>simp[aH.cells]at b;subst b;exact h.cell (i:=7) rfl
  |2,b=>simp[aH.cells]at b;subst b;exact h.cell (i:=8) rfl
  |j+3,b=>simp[aH.cells]at b
 go_enter func162,ntmps162
 go_wp2_with (first
  |((with_reducible refine ao 23 (.tmp 11) c 6 a.geo.cells _ (some 12) k underlying23 rfl bG ?hg ?ho ?hds ?hx ?_);(case ho|hg|hds|hx=>rfl))
  |fail)
 refine(vK a.geo i _ hg f g).mono ?_
 rintro e l ⟨rfl,hb⟩;go_wp2_with fail;go_ret;exact⟨rfl,hb⟩
theorem AN (u p n t ep:Nat) (sv:Value) (M g j first:Int) (d:am) (w:World) (h:aC w p d) (hj:ac w u (bR sv p (⟨M,(t:Int),(ep:Int),g,⟨(n:Int),j,first⟩⟩:aF)) 165) (hg:cA ⟨(n:Int),j,first⟩)
  (hd:d.down=false) (hc:d.cs.length≤4096) (hb:d.bs.length≤1024) (hn:d.bs.length=n) (bd:ep<4294967296) (ht:4+t≤n) (bk:∀i,4+t≤i→i<n→d.shown i=(⟨(List.replicate 4096 0).toArray⟩:ByteArray)) (bA:(if ep % 2=0 then d.shown 3 else d.shown 2)=(⟨(List.replicate 4096 0).toArray⟩:ByteArray)):
  Calls prog 200 #[.pointer (some ⟨u,0,none⟩)] w fun e w'=>e= .returned (.int .i64 0)∧Below w.heap.size w w':=by
 have cu:∀(fn:Fn) (first bb:Array Value) (w:World),(Instr.makeFunc fn first bb).run prog w= .ok (.func fn first bb) w:=fun _ _ _ _=>rfl
 have bv:=hid h;have R:=hid hj;have HG:=hid hg;have aq:=hid hd;have HC:=hid hc;have HB:=hid hb;have HN:=hid (show 8≤n∧d.bs.length=n from⟨by have:=hg.b0;simp only at this;omega,hn⟩);have bw:=hid bd;have HT:=hid ht;have b2:=hid bk;have b3:=hid bA;have a3:=hid (Below.refl w.heap.size w);clear h hj hg hd hc hb hn bd ht bk bA;refine nl func200 rfl ?_;simp only[ntmps200,List.size_toArray,List.length_cons,List.length_nil,Nat.reduceAdd,Nat.reduceSub,Array.replicate_succ,Array.replicate_zero,List.push_toArray,List.append_toArray,List.nil_append,List.cons_append];go_wp2_with fail;refine wp_region_held_drew (S:=fun Q=>Q.cell? ⟨u,1,none⟩=some (.pointer (some ⟨p,0,none⟩))∧Q.cell? ⟨u,3,none⟩=some (.int .i64 (t:Int))∧Q.cell? ⟨u,6,none⟩=some (.int .i64 (n:Int))) (by kernel_rfl) (⟨R.drew.cell (i:=1) rfl,R.drew.cell (i:=3) rfl,R.drew.cell (i:=6) rfl⟩) (fun b=> ?_);obtain⟨wi,y⟩:∃wi,wi=w.drew:=⟨_,rfl⟩;have c:=hid (show ac wi u (bR sv p (⟨M,(t:Int),(ep:Int),g,⟨(n:Int),j,first⟩⟩:aF)) 165 from by rw[y];exact R.drew);have U:=hid (show aC wi p d from by rw[y];exact bv.below (Below.refl _ _).drew);have ad:=hid (show Below w.heap.size w wi from by rw[y];exact a3.drew);rw[←y];rw[←y]at b;clear y;refine hp 0 ?_;refine hp 1 ?_;refine hp 2 ?_;refine hp 3 ?_;refine wpAnyH_ready (rs:=[4]) (by kernel_rfl) (by simp) ?_;refine AllReadyH.cons rfl (fun K o=> ?_) AllReadyH.nil;go_simp
 refine(iT 0 _ (by decide)).mono ?_
 rintro e w' ⟨rfl,rfl⟩
 (try go_wp2_with fail)
 refine o.out _ _ (⟨c.cell (i:=1) rfl,c.cell (i:=3) rfl,c.cell (i:=6) rfl⟩) (fun a=> ?_);clear o K b;have b:=a;clear a
 (try go_frame)
 refine wpAnyH_ready (rs:=[5]) (by kernel_rfl) (by simp) ?_;refine AllReadyH.cons rfl (fun K o=> ?_) AllReadyH.nil;go_simp
 refine(eX p d _ U.out aq.out 2 (by have:=HN.out;omega) HC.out HB.out).mono ?_
 rintro e w' ⟨rfl,rfl⟩
 (try go_wp2_with fail)
 refine o.out _ _ (⟨c.cell (i:=1) rfl,c.cell (i:=3) rfl,c.cell (i:=6) rfl⟩) (fun a=> ?_);clear o K b;have b:=a;clear a
 (try go_frame)
 refine hp 6 ?_;refine hp 7 ?_;refine hp 8 ?_;refine hp 9 ?_;refine hp 10 ?_;refine wpAnyH_done (by kernel_rfl) ?_ _;clear b;go_wp2_with fail;refine wp_region_held_drew (S:=fun Q=>Q.cell? ⟨u,1,none⟩=some (.pointer (some ⟨p,0,none⟩))∧Q.cell? ⟨u,3,none⟩=some (.int .i64 (t:Int))∧Q.cell? ⟨u,6,none⟩=some (.int .i64 (n:Int))) (by kernel_rfl) (⟨c.drew.cell (i:=1) rfl,c.drew.cell (i:=3) rfl,c.drew.cell (i:=6) rfl⟩) (fun b=> ?_);obtain⟨wj,z⟩:∃wj,wj=wi.drew:=⟨_,rfl⟩;have f:=hid (show ac wj u (bR sv p (⟨M,(t:Int),(ep:Int),g,⟨(n:Int),j,first⟩⟩:aF)) 165 from by rw[z];exact c.drew);have V:=hid (show aC wj p d from by rw[z];exact U.below (Below.refl _ _).drew);have q:=hid (show Below w.heap.size w wj from by rw[z];exact ad.drew);rw[←z];rw[←z]at b;clear z;refine hp 0 ?_;refine hp 1 ?_;refine hp 2 ?_;refine hp 3 ?_;refine wpAnyH_ready (rs:=[4]) (by kernel_rfl) (by simp) ?_;refine AllReadyH.cons rfl (fun K o=> ?_) AllReadyH.nil;go_simp
 refine(iT 1 _ (by decide)).mono ?_
 rintro e w' ⟨rfl,rfl⟩
 (try go_wp2_with fail)
 refine o.out _ _ (⟨f.cell (i:=1) rfl,f.cell (i:=3) rfl,f.cell (i:=6) rfl⟩) (fun a=> ?_);clear o K b;have b:=a;clear a
 (try go_frame)
 refine wpAnyH_ready (rs:=[5]) (by kernel_rfl) (by simp) ?_;refine AllReadyH.cons rfl (fun K o=> ?_) AllReadyH.nil;go_simp
 refine(eX p d _ V.out aq.out 3 (by have:=HN.out;omega) HC.out HB.out).mono ?_
 rintro e w' ⟨rfl,rfl⟩
 (try go_wp2_with fail)
 refine o.out _ _ (⟨f.cell (i:=1) rfl,f.cell (i:=3) rfl,f.cell (i:=6) rfl⟩) (fun a=> ?_);clear o K b;have b:=a;clear a
 (try go_frame)
 refine hp 6 ?_;refine hp 7 ?_;refine hp 8 ?_;refine hp 9 ?_;refine hp 10 ?_;refine wpAnyH_done (by kernel_rfl) ?_ _;clear b
 go_wp2_with (first
  |((with_reducible refine cd 34 (.slice none 0 0) Az rfl (some 7) ?hgd ?ho ?hd ?_);(case hgd|ho|hd=>rfl);(intro b7 wk l7 B7 e7 z7;have q4:=(f.out.below e7 (Nat.lt_of_lt_of_le f.out.lt l7)).cell (i:=4) rfl))
  |fail)
 have bm:=q.size;have ck:=hid (Nat.le_trans bm l7);have T:Below wj.heap.size wj wk:=e7.mono l7;have X:=hid (f.below T f.lt);have a4:=hid (V.below T);have F:=hid (q.trans (T.mono q.size));have A:=hid B7;clear q4 l7 B7 e7 z7 T bm
 refine(uI ep (d.shown 2) (d.shown 3) _ bw.out b3.out).mono ?_
 rintro e wl ⟨rfl,N⟩;have x:=hid (X.below N X.lt);have Y:=hid (A.below N A.lt);have a5:=hid (a4.below N);have an:=hid (F.trans (N.mono F.size));clear N;go_wp2_with fail;go_loopw [41] (fun v wr=>v= .int .i64 0∧wl=wr) (fun _ _=>0)
 case atStart=>exact⟨rfl,rfl⟩
 case round=>
  obtain⟨rfl,rfl⟩:=hrel;go_wp2_with fail;refine wp_region_held_drew (S:=fun Q=>Q.cell? ⟨u,1,none⟩=some (.pointer (some ⟨p,0,none⟩))∧Q.cell? ⟨u,3,none⟩=some (.int .i64 (t:Int))∧Q.cell? ⟨u,6,none⟩=some (.int .i64 (n:Int))) (by kernel_rfl) (⟨x.drew.cell (i:=1) rfl,x.drew.cell (i:=3) rfl,x.drew.cell (i:=6) rfl⟩) (fun b=> ?_);obtain⟨wn,s⟩:∃wn,wn=wl.drew:=⟨_,rfl⟩;have J:=hid (show ac wn u (bR sv p (⟨M,(t:Int),(ep:Int),g,⟨(n:Int),j,first⟩⟩:aF)) 165 from by rw[s];exact x.drew);have a6:=hid (show aC wn p d from by rw[s];exact a5.below (Below.refl _ _).drew);have G:=hid (show Below w.heap.size w wn from by rw[s];exact an.drew);have B:=hid (show ac wn b7 [.slice none 0 0] 34 from by rw[s];exact Y.drew);rw[←s];rw[←s]at b;clear s;refine hp 0 ?_;refine hp 1 ?_;refine hp 2 ?_;refine hp 3 ?_;refine hp 4 ?_;refine hp 6 ?_;refine hp 7 ?_;refine hp 8 ?_;refine hp 9 ?_;refine hp 10 ?_;refine hp 12 ?_;refine hp 13 ?_;refine hp 14 ?_;refine hp 15 ?_;refine hp 16 ?_;refine hp 17 ?_;refine wpAnyH_ready (rs:=[5]) (by kernel_rfl) (by simp) ?_;refine AllReadyH.cons rfl (fun K o=> ?_) AllReadyH.nil;go_simp
  refine(iU u p sv (⟨M,(t:Int),(ep:Int),g,⟨(n:Int),j,first⟩⟩:aF) 0 _ J.out HG.out (by decide) (by show(0:Int)<(n:Int)-4;have:=HN.out;omega)).mono ?_
  rintro e wo ⟨rfl,O⟩;have m:=hid (J.below O J.lt);have C:=hid (B.below O B.lt);have a7:=hid (a6.below O);have H:=hid (G.trans (O.mono G.size));clear O
  (try go_wp2_with fail)
  refine o.out _ _ (⟨m.cell (i:=1) rfl,m.cell (i:=3) rfl,m.cell (i:=6) rfl⟩) (fun a=> ?_);clear o K b;have b:=a;clear a
  (try go_frame)
  refine hp 11 ?_;refine wpAnyH_ready (rs:=[18]) (by kernel_rfl) (by simp) ?_;refine AllReadyH.cons rfl (fun K o=> ?_) AllReadyH.nil;go_simp
  refine(r7 p _ _ _).mono ?_
  rintro e wp ⟨⟨pf,pt,pd,rfl,hu⟩,P⟩;have L:=hid (m.below P m.lt);have E:=hid (C.below P C.lt);have a8:=hid (a7.below P);have r:=hid (H.trans (P.mono H.size));have HU:=hid hu;clear hu P
  (try go_wp2_with fail)
  refine o.out _ _ (⟨L.cell (i:=1) rfl,L.cell (i:=3) rfl,L.cell (i:=6) rfl⟩) (fun a=> ?_);clear o K b;have b:=a;clear a
  (try go_frame)
  refine wpAnyH_done (by kernel_rfl) ?_ _;clear b;go_wp2_with fail;refine lz rfl (enters_of func185 (by kernel_rfl) rfl) ?_ ?_
  ·intro l W hW
   have bl:=HU.below hW;have e4:IntKind.i64.wrap (4+(t:Int))=(((4+t:Nat)):Int):=by rw[IntWalk.i64_in _ (by have:=HT.out;have:=HN.out;have:=HB.out;omega)];omega
   rw[e4]at bl
   exact(qL _ p pf pt pd d (4+t) n W (a8.below hW) bl HT.out (by rw[HN.out.2];exact Nat.le_refl _) aq.out HC.out HB.out b2.out).mono (fun e W' h=>⟨⟨_,h.1⟩,h.2⟩)
  intro D wq hD aA be;have Z:=hid (E.below aA E.lt);have I:=hid (r.trans (aA.mono r.size));have b1:=hid (Nat.le_trans r.size hD);have bx:=hid be;have c7:=Z.cell (i:=0) rfl;clear hD aA be;go_wp2_with fail;go_loopw [77] (fun v wr=>v= .int .i64 0∧wq=wr) (fun _ _=>0)
  case atStart=>exact⟨rfl,rfl⟩
  case round=>
   obtain⟨rfl,rfl⟩:=hrel;go_wp2_with fail;refine⟨by simp, .inl ⟨_,_,rfl,run_takeDeferred bx.out, ?_⟩⟩;refine⟨.int .i64 0, ?_,rfl,I.grown (grownBy_putObj' wq D (.deferred none)) I.size (fun k e=>by cases e;exact b1.out)⟩;simp[results,f200,go_sem]
end Go.Proofs.YtadooplpfhdhcaaGreat
