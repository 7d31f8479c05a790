/- Trees of hashes (chapter 15), in plain words. No program in sight. A node's hash; the level above one (chapter 15). A range over a function that hands on rows of memory: what is so of each as it is handed on is told to the loop's body. No program in sight. -/
import Derived.Test.YtadooplpfhdhcaaGreatQ21
import Derived.Test.YtadooplpfhdhcaaGreatQ7
import Derived.Deep.DeepAppendWide
import Derived.Test.YtadooplpfhdhcaaGreatQ10
import Derived.Test.YtadooplpfhdhcaaGreatQ28
set_option linter.unusedSimpArgs false
set_option linter.unusedVariables false
set_option maxRecDepth 100000
set_option maxHeartbeats 4000000
namespace Go.Proofs.YtadooplpfhdhcaaGreat
open Go Go.RowKit
open Go.Lib (hid)
open Go.Proofs.Tryz
def qW (a b:List UInt8):List UInt8:=eh ([1]++a++b)
def yA (a b:ByteArray):ByteArray:=⟨(qW a.data.toList b.data.toList).toArray⟩
theorem DX (a b:ByteArray):(yA a b).size=32:=by
 show(qW _ _).toArray.size=32
 simpa[qW]using cT _
def bW:List ByteArray→List ByteArray
 |x::y::r=>yA x y::bW r
 |[x]=>[x]
 |[]=>[]
theorem jw:∀l:List ByteArray,(bW l).length=(l.length+1)/2
 |x::y::r=>by rw[bW,List.length_cons,jw r];simp only[List.length_cons];omega
 |[x]=>by simp[bW]
 |[]=>by simp[bW]
theorem DY (l:List ByteArray):∀k x y,l[2*k]?=some x→l[2*k+1]?=some y→(bW l)[k]?=some (yA x y):=by
 induction l using bW.induct with
 |case1 a b r ih=>
  intro k x y c hy
  cases k with
  |zero=>simp at c hy;subst c hy;simp[bW]
  |succ k=>
   rw[bW,List.getElem?_cons_succ];refine ih k x y ?_ ?_
   ·rw[show 2*(k+1)=2*k+1+1 from by omega]at c;simpa using c
   ·rw[show 2*(k+1)+1=2*k+1+1+1 from by omega]at hy;simpa using hy
 |case2 a=>intro k x y c hy;simp at c hy
 |case3=>intro k x y c hy;simp at c
theorem DZ (l:List ByteArray):∀k x,l[2*k]?=some x→l.length=2*k+1→(bW l)[k]?=some x:=by
 induction l using bW.induct with
 |case1 a b r ih=>
  intro k x c hl
  cases k with
  |zero=>simp at hl
  |succ k=>
   rw[bW,List.getElem?_cons_succ];refine ih k x ?_ (by simp at hl;omega);rw[show 2*(k+1)=2*k+1+1 from by omega]at c;simpa using c
 |case2 a=>intro k x c hl;simp at hl;obtain rfl:k=0:=(by omega);simpa[bW]using c
 |case3=>intro k x c hl;simp at c
theorem rL (l:List ByteArray) (h:∀x∈l,x.size=32):∀x∈bW l,x.size=32:=by
 induction l using bW.induct with
 |case1 a b r ih=>
  intro x c;rw[bW]at c
  rcases List.mem_cons.1 c with rfl|c
  ·exact DX _ _
  ·exact ih (fun y hy=>h y (by simp[hy])) x c
 |case2 a=>simpa[bW]using h
 |case3=>simp[bW]
def fF:Nat→List ByteArray→List (List ByteArray)
 |0,l=>[l]
 |k+1,l=>if l.length<2 then[l]else l::fF k (bW l)
def ky (s:ByteArray) (l:List ByteArray):ByteArray:=if l.length=1 then l.headD s else s
def yB (l:List ByteArray):List UInt8:=((fF l.length l).foldl ky ⟨(eh []).toArray⟩).data.toList
theorem zA:(prog.info? 9).map (fun i=>(i.zero,i.size,i.bytes))=some (some (.string ByteArray.empty),1,16):=by kernel_rfl
theorem BF (x y:ByteArray) (w:World) (c:x.size=32) (hy:y.size=32):
  Calls prog 317 #[.string x, .string y] w fun e w'=>∃t,e= .returned (.string t)∧ah t ([1]++x.data.toList++y.data.toList)∧w=w':=by
 have a:¬9223372036854775807<1+x.size:=by omega
 have b:¬9223372036854775807<1+x.size+y.size:=by omega
 go_enter func317,ntmps317;go_wp2_with fail;go_ret;exact⟨_,rfl,by unfold ah;simp,rfl⟩
theorem FS (x y:ByteArray) (w:World) (j:x.size=32) (hy:y.size=32):
  Calls prog 310 #[.string x, .string y] w fun e w'=>∃t,e= .returned (.string t)∧ah t (qW x.data.toList y.data.toList)∧Below w.heap.size w w':=by
 go_enter func310,ntmps310;go_wp2_with fail
 refine(BF x y _ j hy).mono ?_
 rintro e w' ⟨t,rfl,f,rfl⟩;have d:t.size≤536870912:=by rw[f.size];have h:x.data.toList.length=x.size:=rfl;have i:y.data.toList.length=y.size:=rfl;simp only[List.length_append,h,i,List.length_cons,List.length_nil];omega
 have c:=hid f;clear f;go_wp2_with fail
 refine(ma t _ _ d).mono ?_
 rintro e k ⟨r,rfl,g,hb⟩;have b:=hid (show ah r (qW x.data.toList y.data.toList)from g.cast (by unfold qW;rw[show t.data.toList= _ from c.out]));have a:=hid hb;clear g hb;go_wp2_with fail;go_ret;exact⟨r,rfl,b.out,a.out⟩
theorem D1 (p:Option Addr) (n c:Nat) (xs:List ByteArray) (w:World) (h:w.ownsRow 0 9 1 (.slice p n c) n (xs.map .string)) (hl:xs.length=n) (hs:∀x∈xs,x.size=32) (hn:n≤65536):
  Calls prog 295 #[.slice p n c] w fun e w'=>(∃v,e= .returned v∧w'.ownsRow w.heap.size 9 1 v (bW xs).length ((bW xs).map .string))∧Below w.heap.size w w':=by
 obtain⟨i0,Q,T,U,V⟩:=info_parts zA;have HW:=hid h;have A:=hid hl;have HS:=hid hs;have D:=hid (jw xs);clear h hl hs;go_enter func295,ntmps295;go_wp2_with fail;go_loopw [3,4] (fun vo i wr=>∃k:Nat,2*k≤n+1∧i= .int .i64 (2*(k:Int))∧Hid (wr.ownsRow w.heap.size 9 1 vo k (((bW xs).take k).map .string))∧Hid (Below w.heap.size w wr)) (fun _ i _=>n+1-(intOf i).toNat)
 case atStart=>exact⟨0,by omega,rfl,hid (World.ownsRow_nil _ _ _ _),hid (Below.refl _ _)⟩
 case round=>
  obtain⟨k,hk,rfl,o,d⟩:=hrel;obtain⟨po,co,rfl⟩:=az o.out
  by_cases bb:2*k<n
  ·have bn:2*(k:Int)<(n:Int):=by omega
   obtain⟨g,b3,z,he,_,_,X⟩:=ba HW.out (by omega)
   injection he with he _ hcc
   subst he hcc;have Z:=hid X.lt;have j:=hid (X.below d.out X.lt);obtain⟨x,hx⟩:∃x,xs[2*k]?=some x:=⟨_,List.getElem?_eq_getElem (by have:=A.out;omega)⟩;have HX:=hid hx;have f:=hid (show(xs.map Value.string++z)[2*k]?=some (.string x)from by rw[List.getElem?_append_left (by rw[List.length_map,A.out];exact bb),List.getElem?_map,HX.out];rfl);have a0:=hid (HS.out x (List.mem_of_getElem? hx));have b8:(2*(k:Int)).toNat=2*k:=by omega
   have b9:(2*(k:Int)+1).toNat=2*k+1:=by omega
   have b6:(0:Int)≤2*(k:Int):=by omega
   have b7:(0:Int)≤2*(k:Int)+1:=by omega
   have ca:IntKind.i64.wrap (2*(k:Int)+1)=2*(k:Int)+1:=by rw[IntKind.wrap_i64];omega
   have cb:IntKind.i64.wrap (2*(k:Int)+2)=2*(k:Int)+2:=by rw[IntKind.wrap_i64];omega
   clear X hx
   by_cases b:n=2*k+1
   ·have s:2*(k:Int)+1=(n:Int):=by omega
    have a9:(2*(k:Int)+1==(n:Int))=true:=beq_iff_eq.2 s
    have L:=hid (show(bW xs)=(bW xs).take k++[x]from by
     have h1:=DZ xs k x HX.out (by rw[A.out];exact b);have h2:(bW xs).length=k+1:=by rw[D.out,A.out];omega
     conv=>lhs;rw[←List.take_of_length_le (i:=k+1) (Nat.le_of_eq h2)]
     obtain⟨h3,h4⟩:=List.getElem?_eq_some_iff.1 h1;rw[List.take_succ_eq_append_getElem h3,h4])
    have c0:=j.cell f.out;have ad:=hid b;clear b
    go_wp2_with (first
     |((with_reducible refine bi 45 9 1 ?parts [.string x] (.string ByteArray.empty) 1 16 (some 21) underlying45 zA (by omega) (by omega) ?hgd ?ho ?hd ?hf ?_);(case hgd|ho|hd=>rfl);(case hf=>kernel_rfl);(intro g7 w7 l7 B7 e7 z7;(have I:=d.out.trans (e7.mono (Nat.le_trans d.out.size l7)));(have C:=own_below (e7.mono l7) o.out)))
     |(at_builtin;refine wpList_append_own_wide _ rfl _ _ 45 rfl w.heap.size 9 i0 (.string ByteArray.empty) 1 16 underlying45 Q T U V rfl (by decide) _ k _ rfl C ⟨g7,0,none⟩ 1 1 [.string x] rfl rfl (bI B7) (by intro v S;simp at S;rcases S with rfl;rfl) (by unfold maxLen;omega) (by omega) I.size ?_;intro v' w8 W H bw)
     |fail)
    go_ret;refine⟨⟨_,rfl, ?_⟩,dH I C H (Nat.le_refl _) I.size⟩;have h2:(bW xs).length=k+1:=by have:=ad.out;rw[D.out,A.out];omega
    rw[h2];rw[L.out,List.map_append];exact W
   ·have R:¬2*(k:Int)+1=(n:Int):=by omega
    have a9:(2*(k:Int)+1==(n:Int))=false:=beq_eq_false_iff_ne.2 R;have bo:2*(k:Int)+1<(n:Int):=by omega
    obtain⟨y,hy⟩:∃y,xs[2*k+1]?=some y:=⟨_,List.getElem?_eq_getElem (by have:=A.out;omega)⟩;have HY:=hid hy;have l:=hid (show(xs.map Value.string++z)[2*k+1]?=some (.string y)from by rw[List.getElem?_append_left (by rw[List.length_map,A.out];omega),List.getElem?_map,HY.out];rfl);have a1:=hid (HS.out y (List.mem_of_getElem? hy));clear hy;go_upto_region 7 with fail;refine hb (fun wx=>wx.cell? ⟨g,2*k,none⟩=some (.string x)∧wx.cell? ⟨g,2*k+1,none⟩=some (.string y)) (⟨j.drew.cell f.out,j.drew.cell l.out⟩) fun a=> ?_
    refine hp 0 ?_;refine hp 1 ?_;refine hp 2 ?_;refine hp 3 ?_;refine hp 4 ?_;refine hp 5 ?_;refine hp 6 ?_;refine hp 7 ?_;refine hp 8 ?_;refine hp 9 ?_;refine hc 10 fun K B=> ?_
    go_simp
    refine(FS x y _ a0.out a1.out).mono ?_
    rintro e wa ⟨t,rfl,tt,P⟩;have r:Below wr.heap.size wr wa:=(Below.refl _ _).drew.trans (P.mono (Nat.le_refl _));have a2:=hid tt;have m:=hid (j.below r j.lt);have an:=hid (own_below r o.out);have J:=hid (d.trans (r.mono d.size));clear P r tt
    (try go_wp2_with fail)
    refine B.out _ _ (⟨m.cell f.out,m.cell l.out⟩) fun _=> ?_
    clear B K a;rename_i a
    (try go_frame)
    refine hc 11 fun K B=> ?_
    go_simp;obtain⟨wb,u⟩:∃wb,wb=wa.alloc (Obj.cells #[.string t] 9):=⟨_,rfl⟩;rw[←u];have q:Below wa.heap.size wa wb:=by rw[u];exact(Below.refl _ _).alloc (Nat.le_refl _) _
    have aA:=hid (show ac wb wa.heap.size [.string t] 9 from by rw[u];exact ac.new wa _ _);have F:=hid (m.below q m.lt);have G:=hid (own_below q an.out);have E:=hid (J.trans (q.mono J.size));clear u q
    (try go_wp2_with fail)
    refine B.out _ _ (⟨F.cell f.out,F.cell l.out⟩) fun _=> ?_
    clear B K a;rename_i a
    (try go_frame)
    refine hc 12 fun K B=> ?_
    refine wp_append_own_wide _ _ _ 45 rfl w.heap.size 9 i0 (.string ByteArray.empty) 1 16 underlying45 Q T U V rfl (by decide) _ k _ rfl G.out ⟨wa.heap.size,0,none⟩ 1 1 [.string t] rfl rfl (bI aA.out) (by intro v S;simp at S;rcases S with rfl;rfl) (by unfold maxLen;omega) (by omega) E.size ?_;intro v' wc own9 grow9 nil9;have M:=hid (F.grown grow9 (own_ne G.out Z.out));have aq:=hid own9;have Y:=hid (dH E.out G.out grow9 (Nat.le_refl _) E.size);obtain⟨p9,q9,bd⟩:=az own9;subst bd;clear own9 grow9 nil9;refine B.out _ _ (⟨M.cell f.out,M.cell l.out⟩) fun _=> ?_
    clear B K a;rename_i a
    (try go_frame)
    refine hp 13 ?_;refine hd ?_;clear a;go_wp2_with fail;go_roundw
    case rel=>
     refine⟨k+1,by omega,by go_num,hid ?_,Y⟩;have h1:=DY xs k x y HX.out HY.out;obtain⟨h3,h4⟩:=List.getElem?_eq_some_iff.1 h1;rw[List.take_succ_eq_append_getElem h3,h4,List.map_append];have O:=aq.out;rw[show t=yA x y from a2.of]at O;exact O
    case measure=>simp[intOf];omega
  ·have b5:(n:Int)≤2*(k:Int):=by omega
   have N:=hid (show(bW xs).length=k from by rw[D.out,A.out];omega);go_wp2_with fail;go_ret;refine⟨⟨_,rfl, ?_⟩,d.out⟩;have O:=o.out;rw[List.take_of_length_le (Nat.le_of_eq N.out)]at O;rw[N.out];exact O
def Jo {α:Type} (P:Program) (g:Nat) (lb:Array Value) (enc:α→Array Value) (H:List α→α→World→Prop) (Kp:World→World→Prop) (S:List α→Prop) (w:World):Prop:=
 ∀(l:Nat) (J:List α→World→Prop) (W:World),Below w.heap.size w W→AbidesFrom W.heap.size J→
  (∀pre x W1,J pre W1→H pre x W1→YieldAt Fence.wide 2 P l (enc x) W1 fun e W'=>e= .returned (.bool true)∧J (pre++[x]) W'∧Kp W1 W')→
  J [] W→CallsIn Fence.wide 3 P g (#[.func (.yield l) #[] #[]]++lb) W fun e W'=>(∃v,e= .returned v)∧∃xs,S xs∧J xs W'
def IB {α:Type} (Kp:World→World→Prop) (I:List α→World→Prop) (xs:List α) (W:World):Exit→Act→World→Prop
 | .normal,_,W'=>KeepsOthers W W'∧Kp W W'∧I xs W'
 |_,_,_=>False
theorem qm {α:Type} {P:Program} {g:Operand} {ps:Array Tmp} {assign body:Code} {Q:Exit→Act→World→Prop} {a:Act} {w:World} {gf:Nat} {lb:Array Value}
  {enc:α→Array Value} {H:List α→α→World→Prop} {Kp:World→World→Prop} {S:List α→Prop}
  (hg:a.eval g= .func (.func gf) #[] lb) (eg:∀args w,(callFunc gf args).run P w= .ok (.enter gf args) w) (hseq:Jo P gf lb enc H Kp S w)
  (hKt:∀{A B C:World},Kp A B→Kp B C→Kp A C) (hKb:∀(W:World) (l:Nat) (o o':Obj),w.heap.size≤l→W.heap[l]?=some o→o.isCells=false→o.isWalk=false→Kp W (W.putObj l o'))
  (hps:∀x,(enc x).size=ps.size) (I:List α→World→Prop) (hI:OwnFrom w.heap.size I) (hH:∀pre,OwnFrom w.heap.size (H pre)) (h0:I [] w) (a1:α→Act)
  (hassign:∀(l:Nat) (x:α) (W:World) (K:Act→World→Prop),K (a1 x) W→assign.wpIn (Fence.wide.inRound l) 2 P (Exit.then K (fun _ _ _=>False)) {tmps:=(ps.zip (enc x)).foldl (fun t (p,v)=>t.setIfInBounds p v) a.tmps,defers:=[]} W)
  (hbody:∀(l:Nat) (pre:List α) (x:α) (W:World),I pre W→H pre x W→body.wpIn (Fence.wide.inRound l) 2 P (IB Kp I (pre++[x]) W) (a1 x) W)
  (hdone:∀(D:Nat) (xs:List α) (W:World),w.heap.size≤D→S xs→I xs W→W.heap[D]?=some (.deferred (some []))→Q .normal {a with defers:={target:= .collected D,args:=#[]}::a.defers} W):
  (Code.rangeFunc g ps assign body).wp P Q a w:=by
 refine(wpIn_wide (n:=4)).1 (wpIn_rangeFunc ?_)
 intro fn hfn;obtain⟨rc,hrc⟩:∃rc:LoopState→Option Code→Loop,rc=fun st pe=>{state:=st,pending:=pe,fn,tmps:=a.tmps,params:=ps,assign,body,defers:=w.heap.size}:=⟨_,rfl⟩
 obtain⟨W1,hW1⟩:∃W1,(w.alloc (.deferred (some []))).alloc (.loop (rc .ready none))=W1:=⟨_,rfl⟩
 have hL1:W1.heap[w.heap.size+1]?=some (.loop (rc .ready none)):=by
  rw[←hW1];have:=World.alloc_heap_new (w.alloc (.deferred (some []))) (.loop (rc .ready none));rwa[World.size_alloc]at this
 have hK1:W1.heap[w.heap.size]?=some (.deferred (some [])):=by
  rw[←hW1];exact(Below.heap_alloc _ _ _ (by simp)).trans (World.alloc_heap_new w _)
 have hI1:I [] W1:=by rw[←hW1];exact hI.alloc _ (hI.alloc _ h0)
 have hb1:Below w.heap.size w W1:=by
  rw[←hW1];exact((Below.refl _ w).alloc (Nat.le_refl _) _).alloc (by simp) _
 have hs1:w.heap.size≤W1.heap.size:=hb1.size
 have hnw:∀{A B:World} {row:Option Nat},(∀r,row=some r→W1.heap.size≤r∧∃o:Obj,A.heap[r]?=some o∧o.isWalk=true)→(∀r,row=some r→w.heap.size≤r∧∃o:Obj,A.heap[r]?=some o∧o.isCells=false):=
  fun hr r e=>by obtain⟨hB,o,ho,hw⟩:=hr r e;exact⟨by omega,o,ho,Obj.not_cells_of_walk hw⟩
 refine⟨w.heap.size+1,[{target:= .collected w.heap.size,args:=#[]}],W1,{target:= .fn (.func gf) lb,args:=#[.func (.yield (w.heap.size+1)) #[] #[]]},W1,gf,#[.func (.yield (w.heap.size+1)) #[] #[]]++lb,W1, ?_, ?_, ?_, ?_,fun _=>by omega, ?_⟩
 ·rw[←hW1,hrc];exact run_enterLoop_outer _ _ _ _ _
 ·simp only[resolve,hg];simp[go_sem]
 ·intro f' _;trivial
 ·simp[invoke,go_sem,eg]
 ·refine(hseq (w.heap.size+1) (fun pre W=>I pre W∧W.heap[w.heap.size+1]?=some (.loop (rc .ready none))∧W.heap[w.heap.size]?=some (.deferred (some []))) W1 hb1
   (fun s A B row hs hg' hr=>⟨hI s A B row hs.1 hg' (hnw (B:=B) hr),(grownBy_keeps hg' (fun r e=>(hr r e).2) hs.2.1 rfl).trans hs.2.1,(grownBy_keeps hg' (fun r e=>(hr r e).2) hs.2.2 rfl).trans hs.2.2⟩) ?_ ⟨hI1,hL1,hK1⟩).mono ?_
  ·rintro pre x W ⟨hi,hl,hk⟩ hx
   have hlt:w.heap.size+1<W.heap.size:=(Array.getElem?_eq_some_iff.1 hl).1;have hy:=run_yield (P:=P) (args:=enc x) hl (by rw[hrc];exact hps x);rw[hrc]at hy;refine⟨fn,_,assign,body,hy,roundIn_of_wpIn hfn (hassign _ x W _ ⟨_,run_beginRound hl (by rw[hrc]), ?_⟩)⟩;have hl2:(W.putObj (w.heap.size+1) (.loop {rc .ready none with state:= .busy})).heap[w.heap.size+1]?=some (.loop {rc .ready none with state:= .busy}):=World.putObj_heap_same hlt;have hk2:(W.putObj (w.heap.size+1) (.loop {rc .ready none with state:= .busy})).heap[w.heap.size]?=some (.deferred (some [])):=(World.putObj_heap_other (by omega)).trans hk;have hw2:Kp W (W.putObj (w.heap.size+1) (.loop {rc .ready none with state:= .busy})):=hKb _ _ _ _ (by omega) hl rfl rfl;refine wpIn_mono (hbody _ pre x _ (hI.putObj _ hi (by omega) hl rfl) ((hH pre).putObj _ hx (by omega) hl rfl)) ?_;rintro e a3 W3 hp
   cases e with
   |normal=>
    obtain⟨hk3,hkp3,hi3⟩:=hp;have hl3:=hk3.same _ _ hl2 rfl;have hr:=run_endRound (P:=P) none hl3;rw[hrc]at hr;rw[hrc]at hl3;exact⟨_,_,hr,rfl,⟨hI.putObj _ hi3 (by omega) hl3 rfl,by rw[hrc];exact World.putObj_heap_same (Array.getElem?_eq_some_iff.1 hl3).1,(World.putObj_heap_other (by omega)).trans (hk3.same _ _ hk2 rfl)⟩,hKt (hKt hw2 hkp3) (hKb _ _ _ _ (by omega) hl3 rfl rfl)⟩
   |_=>exact hp.elim
  ·rintro e W2 ⟨⟨v,rfl⟩,xs,hS,hi,hl,hk⟩
   exact⟨none,_,by have:=run_endLoop (P:=P) hl (by rw[hrc];simp);rw[hrc]at this;exact this,hdone _ xs _ (Nat.le_refl _) hS (hI.putObj _ hi (by omega) hl rfl) ((World.putObj_heap_other (by omega)).trans hk)⟩
attribute [local go_sem] Go.Oper.semAt_some
structure jG where
 p:Option Addr
 n:Nat
 c:Nat
 xs:List ByteArray
def uh (x:jG):Array Value:=#[.slice x.p x.n x.c]
structure yC (x:jG) (w:World):Prop where
 own:w.ownsRow 0 9 1 (.slice x.p x.n x.c) x.n (x.xs.map .string)
 len:x.xs.length=x.n
def sliceLen:Value→Nat
 | .slice _ n _=>n
 |_=>0
structure kP (b:Nat) (w w':World):Prop where
 size:w.heap.size≤w'.heap.size
 same:∀(k:Nat) (o:Obj),k≠b→w.heap[k]?=some o→o.isCells=true→w'.heap[k]?=some o
theorem kP.own {b:Nat} {w f:World} {v:Value} {n:Nat} {xs:List Value} {e:TypeId} {size:Nat} (h:kP b w f) (d:w.ownsRow 0 e size v n xs) (hb:v.ownBlock≠some b):f.ownsRow 0 e size v n xs:=by
 refine⟨d.1,d.2.imp id ?_⟩;rintro⟨g,a,c,rfl,i,j,r⟩;exact⟨g,a,c,rfl,i,h.same g _ (fun e=>hb (by rw[e];rfl)) j rfl,r⟩
theorem BG {w i:World} {v:Value} {n:Nat} {xs:List Value} {e:TypeId} {size:Nat} {b:Option Nat} (h:w.ownsRow 0 e size v n xs) (l:w.grownBy i b) (m:∀r,b=some r→∃o:Obj,w.heap[r]?=some o∧o.isCells=false):i.ownsRow 0 e size v n xs:=by
 refine⟨h.1,h.2.imp id ?_⟩;rintro⟨g,d,f,rfl,j,a,r⟩;have hl:=(Array.getElem?_eq_some_iff.1 a).1;refine⟨g,d,f,rfl,j,(l.block g hl (fun e=> ?_)).trans a,r⟩;obtain⟨o,c,k⟩:=m g e.symm;rw[a]at c
 injection c with c
 subst c
 cases k
theorem IC (B:Nat):OwnFrom B yC:=fun x W d c h a b=>⟨BG h.own a (fun r e=>(b r e).2),h.len⟩
theorem zB (b o:Nat) (p:Option Addr) (n c:Nat) (xs:List ByteArray) (w:World) (hb:ac w b [.slice p n c] 45) (X:w.ownsRow 0 9 1 (.slice p n c) n (xs.map .string)) (hl:xs.length=n) (Y:∀x∈xs,x.size=32) (hn:n≤65536) (S:o<w.heap.size) (u:(Value.slice p n c).ownBlock≠some o):
  Jo prog 294 #[.pointer (some ⟨b,0,none⟩)] uh (fun _=>yC) (kP o) (fun ys=>ys.map jG.xs=fF n xs) w:=by
 intro r J W B T V R;have HB:=hid (hb.below B hb.lt);have HO:=hid (own_below B X);have HL:=hid hl;have HS:=hid Y;have HY:=hid V;have HJ:=hid T;have H0:=hid R;have H4:=hid (Nat.lt_of_lt_of_le S B.size);have E:=hid u;clear hb X hl Y V T R S u B;have cb:=HB.cell (i:=0) rfl;refine callsIn_of_wp func294 rfl trivial ?_ rfl;simp only[ntmps294,List.size_toArray,List.length_cons,List.length_nil,Nat.reduceAdd,Nat.reduceSub,Array.replicate_succ,Array.replicate_zero,List.push_toArray,List.append_toArray,List.nil_append,List.cons_append]
 gi_wp2_with fail
 refine mW ?_
 gi_wp2_with fail
 refine wpIn_label ?_
 gi_wp2_with fail
 gi_loopw [3] (fun q wr=>∃(d:List jG) (y:jG),q= .slice y.p y.n y.c∧Hid (J d wr)∧Hid (yC y wr)∧Hid (∀x∈y.xs,x.size=32)∧y.n≤65536∧Hid ((Value.slice y.p y.n y.c).ownBlock≠some o)∧Hid (o<wr.heap.size)∧Hid (∃f,y.n≤f∧fF n xs=d.map jG.xs++fF f y.xs)) (fun q _=>sliceLen q)
 case atStart=>exact⟨[],⟨p,n,c,xs⟩,rfl,H0,hid ⟨HO.out,HL.out⟩,HS,hn,E,H4,hid ⟨n,Nat.le_refl _,rfl⟩⟩
 case round=>
  obtain⟨d,y,rfl,D,a,m,N,F,C,O⟩:=hrel;obtain⟨fn,Z,z,Q,hy,U⟩:=HY.out d y wr D.out a.out
  dsimp only[uh]at hy
  have HR:=hid U;clear U
  gi_wp2_with fail
  refine HR.mono ?_;rintro e W3 ⟨rfl,s,g⟩;have l:=hid s;have G:=hid (g.own a.own F.out);have j:=hid (Nat.lt_of_lt_of_le C.out g.size);clear s g hy
  by_cases h2:y.n<2
  ·have H:(y.n:Int)<2:=by omega
   have HE:=hid (show(d++[y]).map jG.xs=fF n xs from by
    obtain⟨f,hf,h⟩:=O.out;rw[h,List.map_append]
    congr 1
    cases f with
    |zero=>rfl
    |succ f=>rw[fF,if_pos (by rw[a.len];exact h2)];rfl)
   gi_wp2_with fail
   rw[Exit.noGoto_normal];refine bodyPost_end (results_none rfl _ _ _) rfl ?_;exact⟨⟨_,rfl⟩,_,HE.out,l.out⟩
  ·have H:¬(y.n:Int)<2:=by omega
   gi_wp2_with (first
    |(refine⟨trivial, ?_⟩;gi_at_call 295;refine(callsIn_wide.2 (D1 y.p y.n y.c y.xs _ G.out a.len m.out N)).mono ?_;rintro e w5 ⟨⟨v,rfl,L⟩,t⟩;have P:=hid L;have k:=hid t;obtain⟨pv,q,K⟩:=az L;subst K;clear L t)
    |fail)
   go_roundw
   case rel=>
    have I:=jw y.xs;have M:=a.len;refine⟨d++[y],⟨pv,(bW y.xs).length,q,bW y.xs⟩,rfl,hid (HJ.out _ _ _ none l.out (below_grown k.out) (fun r e=>by cases e)),hid ⟨gp P.out,rfl⟩,hid (rL _ m.out),by show(bW y.xs).length≤_;omega,hid (fun e=> ?_),hid (Nat.lt_of_lt_of_le j.out k.size),hid ?_⟩
    ·have:=(P.lt _ e).1
     have:=j.out
     omega
    ·obtain⟨f,hf,h⟩:=O.out
     obtain⟨A,rfl⟩:∃A,f=A+1:=⟨f-1,by omega⟩;refine⟨A,by show(bW y.xs).length≤A;omega, ?_⟩;rw[h,fF,if_neg (by omega),List.map_append];simp
   case measure=>
    have I:=jw y.xs;have M:=a.len
    show(bW y.xs).length<y.n
    omega
theorem BH {b:Nat} {A B C:World} (h:kP b A B) (k:kP b B C):kP b A C:=⟨Nat.le_trans h.size k.size,fun i o a c hc=>k.same i o a (h.same i o a c hc) hc⟩
theorem FT {b:Nat} (W:World) (l:Nat) (o d:Obj) (hl:W.heap[l]?=some o) (hc:o.isCells=false):kP b W (W.putObj l d):=
 ⟨(grownBy_putObj' W l d).size,fun k x f a c=>((grownBy_putObj' W l d).block k (Array.getElem?_eq_some_iff.1 a).1 (fun e=>by
   injection e with e
   subst e;rw[hl]at a
   injection a with a
   subst a;rw[hc]at c
   cases c)).trans a⟩
theorem FU {b:Nat} (W:World) (j:Nat) (v:Value):kP b W (W.setCell ⟨b,j,none⟩ v):=
 ⟨by simp,fun k x c a _=>((wv W b j v).block k (Array.getElem?_eq_some_iff.1 a).1 (fun e=>by injection e with e;exact c e)).trans a⟩
theorem D2 {b:Nat} (W:World):kP b W W:=⟨Nat.le_refl _,fun _ _ _ h _=>h⟩
def lh (s:ByteArray) (ls:List (List ByteArray)):ByteArray:=ls.foldl ky s
theorem xP (p:Option Addr) (n c:Nat) (xs:List ByteArray) (w:World) (h:w.ownsRow 0 9 1 (.slice p n c) n (xs.map .string)) (hl:xs.length=n) (R:∀x∈xs,x.size=32) (hn:n≤4096):
  Calls prog 242 #[.slice p n c] w fun e w'=>(∃s,e= .returned (.tuple #[.string s, .int .i64 0])∧ah s (yB xs))∧Below w.heap.size w w':=by
 have HO:=hid h;have U:=hid hl;have HS:=hid R;have X:=hid (fun k (hk:(Value.slice p n c).ownBlock=some k)=>(h.lt k hk).2);clear h hl R;refine nl func242 rfl ?_;simp only[ntmps242,List.size_toArray,List.length_cons,List.length_nil,Nat.reduceAdd,Nat.reduceSub,Array.replicate_succ,Array.replicate_zero,List.push_toArray,List.append_toArray,List.nil_append,List.cons_append];go_wp2_with fail
 refine(tM p n c xs _ HO.out U.out HS.out (by omega)).mono ?_
 rintro e w1 ⟨rfl,rfl⟩;go_wp2_with fail
 refine(yJ none 0 _).mono ?_
 rintro e w2 ⟨j,rfl,O,N⟩;have V:=hid O;have t:=hid N;clear O N;go_wp2_with fail;obtain⟨b4,a⟩:∃b4,b4=w2.heap.size:=⟨_,rfl⟩;obtain⟨w3,u⟩:∃w3,w3=w2.alloc (Obj.cells #[.string j] 9):=⟨_,rfl⟩;rw[←a,←u];have L:ac w3 b4 [.string j] 9:=by rw[a,u];exact ac.new w2 [.string j] 9
 have M:Below w.heap.size w w3:=by rw[u];exact t.trans (((Below.refl _ _).alloc (Nat.le_refl _) _).mono t.size)
 have J:w.heap.size≤b4:=by rw[a];exact t.size
 have F:=hid L;have I:=hid M;have E:=hid J;clear a u t L M J
 refine(rF p n c _).mono ?_
 rintro e wA ⟨bl,rfl,BL,lL,y⟩;have T:=hid BL;have G:=hid (F.below y F.lt);have v:=hid (I.trans (y.mono I.size));clear BL lL y;go_wp2_with fail;have hA:w.heap.size≤wA.heap.size:=v.size
 refine qm (enc:=uh) (H:=fun _=>yC) (Kp:=kP b4) (S:=fun C=>C.map jG.xs=fF n xs) rfl (enters_of func294 (by kernel_rfl) rfl)
  (zB bl b4 p n c xs wA T.out (own_below v.out HO.out) U.out HS.out (by omega) G.lt (fun e=>by have:=X.out b4 e;have:=E.out;omega)) BH (fun W l o o' _ hl hc _=>FT W l o o' hl hc) (fun x=>rfl)
  (fun f W=>ac W b4 [.string (lh j (f.map jG.xs))] 9∧Below w.heap.size w W)
  (OwnFrom.and (Own.from (fun s A B bn R hg hr=>R.iceless hg hr) _) (ownFrom_below (Nat.le_refl _) hA)) (fun _=>IC _) ⟨G.out,v.out⟩
  (fun x=>{tmps:=#[.slice p n c,undef, .string ⟨#[]⟩, .int .i64 0, .pointer (some ⟨b4,0,none⟩), .slice x.p x.n x.c, .slice p n c, .bool true, .bool false, .string j, .slice p n c, .func (.func 294) #[] #[.pointer (some ⟨bl,0,none⟩)], .slice x.p x.n x.c,undef,undef,undef,undef,undef,undef,undef],defers:=[]}) ?assign ?body ?done
 case assign=>
  intro r x W K Q
  dsimp only[uh]
  gi_wp2
  exact Q
 case body=>
  rintro r f x W ⟨a,P⟩ hx;have z4:=a.cell (i:=0) rfl;have f4:=a.free 0;obtain⟨q,m,d,C⟩:=x;have b:=hx.len;simp only at b
  by_cases h1:m=1
  ·subst h1
   obtain⟨x0,rfl⟩:∃x0,C=[x0]:=by
    rcases C with _|⟨x0,_|⟨_,_⟩⟩
    ·simp at b
    ·exact⟨x0,rfl⟩
    ·simp at b
   obtain⟨g,a8,z,Y,_,_,hk⟩:=ba hx.own (by show 0<1;omega)
   injection Y with Y _ _
   have cg:=hk.cell (i:=0) rfl;have Z:q=some ⟨g,0,none⟩:=Y;subst Z
   gi_wp2_with fail
   refine⟨KeepsOthers.setCell _ _ _,FU W 0 _, ?_,P.setCell (p:=⟨b4,0,none⟩) (by show w.heap.size≤b4;exact E.out) _⟩;have e:∀d',lh j ((f++[(⟨some ⟨g,0,none⟩,1,d',[x0]⟩:jG)]).map jG.xs)=x0:=fun d'=>by simp[lh,ky]
   rw[e];exact a.set 0 (.string x0)
  ·have a9:((m:Int)==1)=false:=beq_eq_false_iff_ne.2 (by omega)
   have a4:¬(m:Int)=1:=by omega
   gi_wp2_with fail
   refine⟨tN W,D2 W, ?_,P⟩
   have e:lh j ((f++[(⟨q,m,d,C⟩:jG)]).map jG.xs)=lh j (f.map jG.xs):=by
    simp only[lh,List.map_append,List.foldl_append,List.map_cons,List.map_nil,List.foldl_cons,List.foldl_nil];unfold ky;rw[if_neg (by rw[b];exact h1)]
   rw[e];exact a
 case done=>
  rintro D C W hD hS ⟨a,P⟩ Q;have z4:=a.cell (i:=0) rfl;go_wp2_with fail;refine⟨by simp, .inl ⟨_,_,rfl,run_takeDeferred Q, ?_⟩⟩;refine⟨.tuple #[.string (lh j (C.map jG.xs)), .int .i64 0], ?_,⟨_,rfl, ?_⟩,P.trans (belowK_b (w:=w) (Nat.le_refl _) W D _ _ (by omega) Q rfl rfl)⟩
  ·simp[results,f242,go_sem]
   rw[hS]
  ·rw[hS]
   unfold yB lh;rw[U.out,show j=⟨(eh []).toArray⟩from V.of]
   rfl
open Go.Maps Go.WideMaps
def lK (l:List bK):List UInt8:=yB (eu l)
theorem BI (p:Option Addr) (n c:Nat) (l:List bK) (w:World) (h:gk w p n l) (v:mA l) (hn:n≤4096):
  Calls prog 174 #[.slice p n c] w fun e w'=>(∃s,e= .returned (.tuple #[.string s, .int .i64 0])∧ah s (lK l))∧Below w.heap.size w w':=by
 have m:=hid h;have g:=hid v;clear h v;go_enter func174,ntmps174;go_wp2_with fail
 refine(rE p n c l _ m.out g.out (by omega)).mono ?_
 rintro e C ⟨rfl,a⟩;have b:=hid a;have o:=hid (m.below a);clear a;go_wp2_with fail
 refine(pW p n c l _ o.out g.out (by omega)).mono ?_
 rintro e D ⟨⟨B,rfl,t⟩,i⟩;have f:=hid (b.trans (i.mono b.size));obtain⟨q,d,rfl⟩:=az t;have A:=hid (gp t);clear i t;go_wp2_with fail
 refine(xP q n d (eu l) _ A.out (by unfold eu;rw[List.length_map];exact m.out.1) (fun x u=> ?_) hn).mono ?_
 ·unfold eu at u
  obtain⟨y,_,rfl⟩:=List.mem_map.1 u
  show(lG y).toArray.size=32
  simpa using j4 y
 rintro e E ⟨⟨s,rfl,z⟩,j⟩;have r:=hid z;have k:=hid (f.trans (j.mono f.size));clear j z;go_wp2_with fail;go_ret2;exact⟨⟨s,rfl,r.out⟩,k.out⟩
theorem pu (i B n:Nat) (ep:Int) (D:DataW Unit) (f:Int→Option (List UInt8)) (w:World) (h:dK w i B n ep D) (o:ja D f) (p:fL f):
  Calls prog 83 #[.pointer (some ⟨i,0,none⟩)] w fun e w'=>(∃s,e= .returned (.string s)∧ah s (lK (bu f 4096)))∧Below w.heap.size w w':=by
 have m:=hid h;have u:=hid o;have v:=hid p;clear h o p;go_enter func83,ntmps83;go_wp2_with fail
 refine(ip i B n _ _ _ m.out).mono ?_
 rintro e y ⟨rfl,rfl⟩;go_wp2_with fail
 refine(nY i B n ep D f _ m.out u.out).mono ?_
 rintro e z ⟨⟨x,rfl,r⟩,b⟩;have a:=hid b;obtain⟨q,d,rfl,g⟩:=gk.own r rfl;have k:=hid g;clear b r g;go_wp2_with fail
 refine(BI q _ d (bu f 4096) _ k.out (rG v.out 4096 (Nat.le_refl _)) (rC f 4096)).mono ?_
 rintro e A ⟨⟨s,rfl,t⟩,c⟩;have l:=hid t;have j:=hid (a.trans (c.mono a.size));clear c t;go_wp2_with fail;go_ret;exact⟨⟨s,rfl,l.out⟩,j.out⟩
inductive fx where
 |cell (c:ak)
 |held (s:ByteArray)
structure j9 (v:ai) (k:Nat) (c:ak):Prop where
 ok:bh c
 slot:c.slot=(k:Int)
 lba:c.lba<v.last.geo.lbas
 e0:v.first≤c.epoch
 e1:c.epoch≤v.epoch
 txt:ah (v.d.shown (4+(k:Int))) (cellL c)
structure KV (v:ai) (k:Nat) (s:ByteArray):Prop where
 n0:1≤s.size
 n1:s.size≤4000
 txt:ah (v.d.shown (4+(k:Int))) (holdL s.data.toList)
def eA (v:ai) (k:Nat):fx→Prop
 | .cell c=>j9 v k c
 | .held s=>KV v k s
theorem eA.size {v:ai} {k:Nat} {e:fx} (h:eA v k e):(v.d.shown (4+(k:Int))).size=4096:=by
 cases e with
 |cell c=>rw[h.txt.size,fm c h.ok.n]
 |held s=>rw[h.txt.size,gh _ h.n1]
def fx.taken:fx→Ending
 | .cell c=> .returned (.tuple #[.agg c.cells.toArray, .int .i64 0])
 | .held _=> .returned (.tuple #[.agg cC.toArray, .int .i64 3])
theorem px {a:ByteArray} {c:ak} {s:List UInt8} (hc:ah a (cellL c)) (f:ah a (holdL s)):False:=by
 have h:cellL c=holdL s:=(show a.data.toList=cellL c from hc).symm.trans f;have b:=congrArg List.head? h
 have d:(cellL c).head?=(beBytes 1 (bF c).toNat).head?:=by
  have hl:(beBytes 1 (bF c).toNat).length=1:=beBytes_length _ _;unfold cellL fa dd dp;obtain⟨x,g⟩:=List.length_eq_one_iff.1 hl;simp[da,g]
 have e:(holdL s).head?=some 3:=by simp[holdL,fa]
 rw[d,e]at b
 rcases kM c with h2|h2<;>rw[h2]at b<;>revert b<;>decide
theorem eA.taken {v:ai} {k:Nat} {x:fx} {e:Ending} (h:eA v k x) (a:kX (v.d.shown (4+(k:Int))) e):e=x.taken:=by
 cases x with
 |cell c=>
  rcases a with⟨d,hd,td,rfl⟩|⟨hno,_⟩
  ·obtain rfl:c=d:=vX h.ok hd ((show(v.d.shown (4+(k:Int))).data.toList=cellL c from h.txt).symm.trans td)
   rfl
  ·exact absurd h.txt (hno c h.ok)
 |held s=>
  rcases a with⟨d,hd,td,_⟩|⟨_,rfl⟩
  ·exact(px td h.txt).elim
  ·rfl
theorem xQ (i:ap) (v:ai) (k:Int) (w:World) (h:al w i v) (G:bp v) (E:0≤k) (F:k<v.used) (hb:(v.d.shown (4+k)).size=4096):
  Calls prog 62 #[.pointer (some ⟨i.vb,0,none⟩), .int .i64 k] w fun e w'=>kX (v.d.shown (4+k)) e∧Below w.heap.size w w':=by
 have y:=hid G;have C:=hid (show 0≤k∧k<v.used from⟨E,F⟩);have B:=hid hb;have x:=hid h;clear G E F hb h;have J:w.cell? ⟨i.vb,0,none⟩=some (.pointer (some ⟨i.jb,0,none⟩)):=x.vol.cell (i:=0) rfl;go_enter func62,ntmps62
 go_wp2_with (first
  |((with_reducible refine ab 134 _ zeroCell (some 4) ?hgd ?ho ?hd ?_);(case hgd|ho|hd=>rfl);(intro D L s A t N;have K:L.cell? ⟨i.vb,0,none⟩=some (.pointer (some ⟨i.jb,0,none⟩)):=((x.out.below (t.mono s)).vol.cell (i:=0) rfl)))
  |fail)
 have n:=hid A;have r:=hid s;have b:=hid (t.mono s);have H:=hid (x.below (t.mono s));clear A s t N K J
 refine(oC i v k _ H.out y.out C.out.1 C.out.2).mono ?_
 rintro e O ⟨rfl,l⟩;have o:=hid (n.below l n.lt);have f:=hid (b.trans (l.mono b.size));clear l;obtain⟨blk,a⟩:∃blk,v.d.shown (4+k)=blk:=⟨_,rfl⟩;rw[a];rw[a]at B;have q:=hid a;clear a;go_wp2_with fail
 refine(jD blk _ B.out).mono ?_
 rintro e P ⟨I,m⟩;have p:=hid (o.below m o.lt);have g:=hid (f.trans (m.mono f.size));clear m
 rcases I with⟨c,hc,ht,rfl⟩|⟨hno,rfl⟩
 ·have j:=hid (show kX (v.d.shown (4+k)) (.returned (.tuple #[.agg c.cells.toArray, .int .i64 0]))from by rw[q.out];exact .inl ⟨c,hc,ht,rfl⟩)
  clear hc ht
  go_wp2_with (first
   |((with_reducible refine aa 134 (.tmp 4) (.tmp 23) D cC c.cells 134 p.out rfl aX (bZ _) ?hgd ?ho ?hx ?hy ?_);(case hgd|ho|hx|hy=>rfl);(intro M u z))
   |fail)
  (try simp only[Exit.inBlock,Exit.then]);refine bodyPost_ret (aU rfl _ _ u.range rfl underlying134 rfl aX) rfl ?_;exact⟨j.out,z.below g.out r.out⟩
 ·have j:=hid (show kX (v.d.shown (4+k)) (.returned (.tuple #[.agg cC.toArray, .int .i64 3]))from by rw[q.out];exact .inr ⟨hno,rfl⟩)
  clear hno
  go_wp2_with (first
   |((with_reducible refine aa 134 (.tmp 4) (.tmp 23) D cC (ak.cells ⟨0,0,0,false,⟨#[]⟩⟩) 134 p.out rfl aX (bZ _) ?hgd ?ho ?hx ?hy ?_);(case hgd|ho|hx|hy=>rfl);(intro M u z))
   |fail)
  (try simp only[Exit.inBlock,Exit.then]);refine bodyPost_ret (aU rfl _ _ u.range rfl underlying134 rfl aX) rfl ?_;exact⟨j.out,z.below g.out r.out⟩
theorem nG (i:ap) (v:ai) (k:Nat) (x:fx) (w:World) (h:al w i v) (d:bp v) (c:(k:Int)<v.used) (b:eA v k x):
  Calls prog 62 #[.pointer (some ⟨i.vb,0,none⟩), .int .i64 (k:Int)] w fun e w'=>e=x.taken∧Below w.heap.size w w':=
 (xQ i v k w h d (by omega) c b.size).mono fun e w' a=>⟨b.taken a.1,a.2⟩
def cp (ep:Int) (cs:List ak):Int→Option (List UInt8):=cs.foldl (fun f c=>fun j=>if j=c.lba then some (eV ep c.slot c.cipher.data.toList)else f j) (fun _=>none)
theorem fO {ep:Int} {cs:List ak} {k:Nat} {c:ak} (hc:cs[k]?=some c):cp ep (cs.take (k+1))=fun j=>if j=c.lba then some (eV ep c.slot c.cipher.data.toList)else cp ep (cs.take k) j:=by
 obtain⟨a,b⟩:=List.getElem?_eq_some_iff.1 hc;unfold cp;rw[List.take_succ_eq_append_getElem a,List.foldl_append,b]
 rfl
def dV (ep:Int) (cs:List ak):DataW Unit:=cs.foldl (fun D c=>D.put (.int .i64 c.lba) (.lit (.string (eV ep c.slot c.cipher.data.toList)))) (.map [])
theorem lM {ep:Int} {cs:List ak} {k:Nat} {c:ak} (hc:cs[k]?=some c):dV ep (cs.take (k+1))=(dV ep (cs.take k)).put (.int .i64 c.lba) (.lit (.string (eV ep c.slot c.cipher.data.toList))):=by
 obtain⟨a,b⟩:=List.getElem?_eq_some_iff.1 hc;unfold dV;rw[List.take_succ_eq_append_getElem a,List.foldl_append,b]
 rfl
theorem mB (ep:Int) (cs:List ak):∀k,k≤cs.length→ja (dV ep (cs.take k)) (cp ep (cs.take k))∧Maps.Tidy (dV ep (cs.take k))
 |0,_=>⟨ja.none,Maps.tidy_empty⟩
 |k+1,h=>by
  have hc:cs[k]?=some cs[k]:=List.getElem?_eq_getElem (by omega);obtain⟨a,b⟩:=mB ep cs k (by omega);rw[lM hc,fO hc];exact⟨a.put _ _,b.put (show WideAt.IsKeyLit (.int .i64 cs[k].lba)from trivial) _⟩
theorem lN (ep:Int) (cs:List ak) (x:Int):∀k,k≤cs.length→(∀j c,cs[j]?=some c→j<k→c.lba≠x)→cp ep (cs.take k) x=none
 |0,_,_=>rfl
 |k+1,h,hd=>by
  have hc:cs[k]?=some cs[k]:=List.getElem?_eq_getElem (by omega);rw[fO hc]
  show(if x=cs[k].lba then _ else _)= _
  rw[if_neg (fun e=>hd k _ hc (by omega) e.symm)];exact lN ep cs x k (by omega) (fun j c a b=>hd j c a (by omega))
theorem ui (ep:Int) (cs:List ak) (hd:∀(j k:Nat) (a b:ak),cs[j]?=some a→cs[k]?=some b→j<k→a.lba≠b.lba):∀k,k≤cs.length→Maps.size (dV ep (cs.take k))=k
 |0,_=>rfl
 |k+1,h=>by
  have hc:cs[k]?=some cs[k]:=List.getElem?_eq_getElem (by omega);obtain⟨d,e⟩:=mB ep cs k (by omega);rw[lM hc,Maps.size_put e,d.has,lN ep cs _ k (by omega) (fun j c f g=>hd j k c _ f hc g),ui ep cs hd k (by omega)]
  rfl
theorem xR (i:ap) (v:ai) (ep:Int) (E:List ag) (cs:List ak) (w:World) (h:al w i v) (ok:bp v) (e0:0≤ep) (e1:ep≤4294967295) (hE:bH v.vers ep=E) (X:v.vers.length≤4096) (H:cs.length=E.length)
  (S:∀(j:Nat) (x:ag) (c:ak),E[j]?=some x→cs[j]?=some c→∃k:Nat,x.slot=(k:Int)∧(k:Int)<v.used∧j9 v k c):
  Calls prog 59 #[.pointer (some ⟨i.vb,0,none⟩), .int .i64 ep] w fun e w'=>(∃I B,e= .returned (.tuple #[.pointer (some ⟨I,0,none⟩), .int .i64 0])∧dK w' I B cs.length ep (dV ep cs))∧Below w.heap.size w w':=by
 have aA:=hid (fun(wx:World) (k:Nat) (c:ak) (hh:al wx i v) (hk:(k:Int)<v.used) (hc:j9 v k c)=>nG i v k (.cell c) wx hh ok hk hc);obtain⟨m,C⟩:∃m,E.length=m:=⟨_,rfl⟩;have cW:m≤4096:=by have:=ql v.vers ep;rw[hE,C]at this;omega
 have HM:=hid C;have HE:=hid hE;have a9:=hid X;have K:=hid (H.trans C);have aq:=hid S;rw[H,C];have l:=hid (show 0≤ep∧ep≤4294967295 from⟨e0,e1⟩);have HU:=hid (show v.used≤4294967295 from by have:=ok.u1;have:=ok.sup.geo.b1;omega);have H0:=hid h;clear ok h hE X e0 e1 H S C;go_enter func59,ntmps59;go_wp2_with fail
 refine(nC ep _ l.out.1 l.out.2).mono ?_
 rintro e w1 ⟨⟨I,B,rfl,W,hB,bn⟩,G⟩;have a2:=hid W;have HB:=hid hB;have t:=hid G;have Z:=hid (H0.below G);have v3:w1.cell? ⟨i.vb,3,none⟩=some (.pointer (some ⟨i.xb,0,none⟩)):=Z.vol.cell (i:=3) rfl;clear W hB bn G;go_wp2_with fail
 refine(DW i.xb _ i.xv v.vers ep _ Z.index Z.vers rfl a9.out).mono ?_
 rintro e w2 ⟨⟨ve,rfl,s⟩,o⟩;rw[HE.out,HM.out]at s;obtain⟨pe,ce,rfl⟩:=az s;have a8:=hid s;have J:=hid (t.trans (o.mono t.size));have a3:=hid (a2.below o);have H2:=hid (Z.below o);clear v3 s o;go_wp2_with fail;go_loopw [24] (fun k wr=>∃(j:Nat),j≤m∧k= .int .i64 (j:Int)∧Hid (dK wr I B j ep (dV ep (cs.take j)))∧Hid (wr.ownsRow 0 130 3 (.slice pe m ce) m (ar E))∧Hid (Below w.heap.size w wr)) (fun k _=>m-(intOf k).toNat)
 case atStart=>exact⟨0,Nat.zero_le _,rfl,a3,hid (gp a8.out),J⟩
 case round=>
  obtain⟨j,hj,rfl,N,Q,f⟩:=hrel
  by_cases cz:j<m
  ·have cc:(j:Int)<(m:Int):=by omega
   obtain⟨g,cu,z,he,_,_,hG⟩:=ba Q.out (by omega)
   injection he with he hnn hcc
   subst he hcc;clear hnn;have H2:=hid (H0.below f.out);obtain⟨x,hx⟩:∃x,E[j]?=some x:=⟨_,List.getElem?_eq_getElem (by have:=HM.out;omega)⟩;obtain⟨c,hc⟩:∃c,cs[j]?=some c:=⟨_,List.getElem?_eq_getElem (by have:=K.out;omega)⟩;obtain⟨k,T,U,R⟩:=aq.out j x c hx hc;have bb:=hid T;have a0:=hid U;have a:=hid R;have an:=hid hc;have a1:=hid (ed hG hx);clear hG hx hc T U R
   go_wp2_with (first
    |((with_reducible refine ao 130 (.tmp 26) g (j*3) x.cells _ (some 27) a1.out underlying130 rfl aM ?hg ?ho ?hds ?hx ?_);(case ho|hg|hds|hx=>rfl))
    |((with_reducible refine ab 130 _ cE (some 9) ?hgd ?ho ?hd ?_);(case hgd|ho|hd=>rfl);(intro b9 w5 l5 B5 e5 z5))
    |((with_reducible refine aa 130 (.tmp 9) (.tmp 27) b9 (ag.cells ⟨0,0,0⟩) x.cells 130 B5 rfl aM (bV _) ?hgd ?ho ?hx ?hy ?_);(case hgd|ho|hx|hy=>rfl);(intro w6 B6 o6;have y2:w6.cell? ⟨b9,2,none⟩=some (.int .i64 (k:Int)):=(by rw[←bb.out];exact B6.cell (i:=2) rfl)))
    |fail)
   have b:Below wr.heap.size wr w6:=o6.below (e5.mono l5) l5;have u:=hid (f.trans (b.mono f.size));have a4:=hid (N.below b);have a6:=hid (own_below b Q.out);have H6:=hid (H2.below b);clear B5 B6 e5 z5 o6 l5 b y2
   refine(aA.out _ k c H6.out a0.out a.out).mono ?_
   rintro e w7 ⟨rfl,p⟩
   dsimp only[fx.taken]
   have y:=hid (u.trans (p.mono u.size));have a5:=hid (a4.below p);have a7:=hid (own_below p a6.out);clear p
   go_wp2_with (first
    |((with_reducible refine ab 134 _ zeroCell (some 10) ?hgd ?ho ?hd ?_);(case hgd|ho|hd=>rfl);(intro bd w8 l8 B8 e8 z8))
    |((with_reducible refine aa 134 (.tmp 10) (.tmp 33) bd cC c.cells 134 B8 rfl aX (bZ _) ?hgd ?ho ?hx ?hy ?_);(case hgd|ho|hx|hy=>rfl);(intro w9 Y o9;have y1:=Y.cell (i:=1) rfl;have y2:=Y.cell (i:=2) rfl;have y4:=Y.cell (i:=4) rfl))
    |fail)
   have r:Below w7.heap.size w7 w9:=o9.below (e8.mono l8) l8;have A:=hid (y.trans (r.mono y.size));have M:=hid (a5.below r);have P:=hid (own_below r a7.out);clear B8 Y e8 z8 o9 l8 r y1 y2 y4
   refine(mx I B j ep c.lba c.slot c.cipher (dV ep (cs.take j)) _ M.out (by omega) l.out.1 l.out.2 a.ok.s0 a.ok.s1 a.ok.l0 (by have:=a.ok.l1;omega) a.ok.n).mono ?_
   rintro e c4 ⟨⟨rfl,D⟩,d⟩;have L:=hid D;have F:=hid (d.below A.out (by intro x hx;simp at hx;subst hx;exact HB.out) A.size)
   have O:=hid (ay P.out d (fun q hq C=>by
    simp at C;subst C
    have:=M.map
    obtain⟨es,be,bm,_⟩:=this;obtain⟨cw,fz,V⟩:=pS P.out hq;rw[bm]at V
    cases V))
   clear D d;go_wp2_with fail;go_roundw
   case rel=>exact⟨j+1,by omega,by go_num,hid (by rw[lM an.out];exact L.out),O,F⟩
   case measure=>simp[intOf];omega
  ·obtain rfl:j=m:=by omega
   go_wp2_with fail;go_ret2;refine⟨⟨I,B,rfl, ?_⟩,f.out⟩
   have:=N.out
   rw[List.take_of_length_le (by rw[K.out];exact Nat.le_refl _)]at this;exact this
end Go.Proofs.YtadooplpfhdhcaaGreat
