/- Trees of hashes (chapter 15), in plain words. No program in sight. A node's hash; the level above one (chapter 15). A range over a function that hands on rows of memory: what is so of each as it is handed on is told to the loop's body. No program in sight. -/
import Derived.Test.YtadooplpfhdhcaaGreatQ21
import Derived.Test.YtadooplpfhdhcaaGreatQ7
import Derived.Deep.DeepAppendWide
import Derived.Test.YtadooplpfhdhcaaGreatQ10
import Derived.Test.YtadooplpfhdhcaaGreatQ28
set_option linter.unusedSimpArgs false
set_option linter.unusedVariables false
set_option maxRecDepth 100000
set_option maxHeartbeats 4000000
namespace Go.Proofs.YtadooplpfhdhcaaGreat
open Go Go.RowKit
open Go.Lib (hid)
open Go.Proofs.Tryz
def rN (a b:List UInt8):List UInt8:=dO ([1]++a++b)
def kQ (a b:ByteArray):ByteArray:=⟨(rN a.data.toList b.data.toList).toArray⟩
theorem pE (a b:ByteArray):(kQ a b).size=32:=by
 show(rN _ _).toArray.size=32
 simpa[rN]using cR _
def bz:List ByteArray→List ByteArray
 |x::y::r=>kQ x y::bz r
 |[x]=>[x]
 |[]=>[]
theorem eT:∀l:List ByteArray,(bz l).length=(l.length+1)/2
 |x::y::r=>by rw[bz,List.length_cons,eT r];simp only[List.length_cons];omega
 |[x]=>by simp[bz]
 |[]=>by simp[bz]
theorem pF (l:List ByteArray):∀k x y,l[2*k]?=some x→l[2*k+1]?=some y→(bz l)[k]?=some (kQ x y):=by
 induction l using bz.induct with
 |case1 a b r ih=>
  intro k x y c hy
  cases k with
  |zero=>simp at c hy;subst c hy;simp[bz]
  |succ k=>
   rw[bz,List.getElem?_cons_succ];refine ih k x y ?_ ?_
   ·rw[show 2*(k+1)=2*k+1+1 from by omega]at c;simpa using c
   ·rw[show 2*(k+1)+1=2*k+1+1+1 from by omega]at hy;simpa using hy
 |case2 a=>intro k x y c hy;simp at c hy
 |case3=>intro k x y c hy;simp at c
theorem uM (l:List ByteArray):∀k x,l[2*k]?=some x→l.length=2*k+1→(bz l)[k]?=some x:=by
 induction l using bz.induct with
 |case1 a b r ih=>
  intro k x c hl
  cases k with
  |zero=>simp at hl
  |succ k=>
   rw[bz,List.getElem?_cons_succ];refine ih k x ?_ (by simp at hl;omega);rw[show 2*(k+1)=2*k+1+1 from by omega]at c;simpa using c
 |case2 a=>intro k x c hl;simp at hl;obtain rfl:k=0:=(by omega);simpa[bz]using c
 |case3=>intro k x c hl;simp at c
theorem kR (l:List ByteArray) (h:∀x∈l,x.size=32):∀x∈bz l,x.size=32:=by
 induction l using bz.induct with
 |case1 a b r ih=>
  intro x c;rw[bz]at c
  rcases List.mem_cons.1 c with rfl|c
  ·exact pE _ _
  ·exact ih (fun y hy=>h y (by simp[hy])) x c
 |case2 a=>simpa[bz]using h
 |case3=>simp[bz]
def bu:Nat→List ByteArray→List (List ByteArray)
 |0,l=>[l]
 |k+1,l=>if l.length<2 then[l]else l::bu k (bz l)
def fy (s:ByteArray) (l:List ByteArray):ByteArray:=if l.length=1 then l.headD s else s
def rO (l:List ByteArray):List UInt8:=((bu l.length l).foldl fy ⟨(dO []).toArray⟩).data.toList
theorem Ap:(prog.info? 9).map (fun i=>(i.zero,i.size,i.bytes))=some (some (.string ByteArray.empty),1,16):=by kernel_rfl
theorem Db (x y:ByteArray) (w:World) (c:x.size=32) (hy:y.size=32):
  Calls prog 317 #[.string x, .string y] w fun e w'=>∃t,e= .returned (.string t)∧aj t ([1]++x.data.toList++y.data.toList)∧w=w':=by
 have a:¬9223372036854775807<1+x.size:=by omega
 have b:¬9223372036854775807<1+x.size+y.size:=by omega
 go_enter func317,ntmps317;go_wp2_with fail;go_ret;exact⟨_,rfl,by unfold aj;simp,rfl⟩
theorem qW (x y:ByteArray) (w:World) (j:x.size=32) (hy:y.size=32):
  Calls prog 310 #[.string x, .string y] w fun e w'=>∃t,e= .returned (.string t)∧aj t (rN x.data.toList y.data.toList)∧Below w.heap.size w w':=by
 go_enter func310,ntmps310;go_wp2_with fail
 refine(Db x y _ j hy).mono ?_
 rintro e w' ⟨t,rfl,f,rfl⟩;have d:t.size≤536870912:=by rw[f.size];have h:x.data.toList.length=x.size:=rfl;have i:y.data.toList.length=y.size:=rfl;simp only[List.length_append,h,i,List.length_cons,List.length_nil];omega
 have c:=hid f;clear f;go_wp2_with fail
 refine(mm t _ _ d).mono ?_
 rintro e k ⟨r,rfl,g,hb⟩;have b:=hid (show aj r (rN x.data.toList y.data.toList)from g.cast (by unfold rN;rw[show t.data.toList= _ from c.out]));have a:=hid hb;clear g hb;go_wp2_with fail;go_ret;exact⟨r,rfl,b.out,a.out⟩
theorem uN (p:Option Addr) (n c:Nat) (xs:List ByteArray) (w:World) (h:w.ownsRow 0 9 1 (.slice p n c) n (xs.map .string)) (hl:xs.length=n) (hs:∀x∈xs,x.size=32) (hn:n≤65536):
  Calls prog 295 #[.slice p n c] w fun e w'=>(∃v,e= .returned v∧w'.ownsRow w.heap.size 9 1 v (bz xs).length ((bz xs).map .string))∧Below w.heap.size w w':=by
 obtain⟨i0,Q,T,U,V⟩:=info_parts Ap;have HW:=hid h;have A:=hid hl;have HS:=hid hs;have D:=hid (eT xs);clear h hl hs;go_enter func295,ntmps295;go_wp2_with fail;go_loopw [3,4] (fun vo i wr=>∃k:Nat,2*k≤n+1∧i= .int .i64 (2*(k:Int))∧Hid (wr.ownsRow w.heap.size 9 1 vo k (((bz xs).take k).map .string))∧Hid (Below w.heap.size w wr)) (fun _ i _=>n+1-(intOf i).toNat)
 case atStart=>exact⟨0,by omega,rfl,hid (World.ownsRow_nil _ _ _ _),hid (Below.refl _ _)⟩
 case round=>
  obtain⟨k,hk,rfl,o,d⟩:=hrel;obtain⟨po,co,rfl⟩:=aD o.out
  by_cases a9:2*k<n
  ·have bl:2*(k:Int)<(n:Int):=by omega
   obtain⟨g,b1,z,he,_,_,X⟩:=bO HW.out (by omega)
   injection he with he _ hcc
   subst he hcc;have Z:=hid X.lt;have j:=hid (X.below d.out X.lt);obtain⟨x,hx⟩:∃x,xs[2*k]?=some x:=⟨_,List.getElem?_eq_getElem (by have:=A.out;omega)⟩;have HX:=hid hx;have f:=hid (show(xs.map Value.string++z)[2*k]?=some (.string x)from by rw[List.getElem?_append_left (by rw[List.length_map,A.out];exact a9),List.getElem?_map,HX.out];rfl);have aA:=hid (HS.out x (List.mem_of_getElem? hx));have b6:(2*(k:Int)).toNat=2*k:=by omega
   have b7:(2*(k:Int)+1).toNat=2*k+1:=by omega
   have b4:(0:Int)≤2*(k:Int):=by omega
   have b5:(0:Int)≤2*(k:Int)+1:=by omega
   have b8:IntKind.i64.wrap (2*(k:Int)+1)=2*(k:Int)+1:=by rw[IntKind.wrap_i64];omega
   have b9:IntKind.i64.wrap (2*(k:Int)+2)=2*(k:Int)+2:=by rw[IntKind.wrap_i64];omega
   clear X hx
   by_cases b:n=2*k+1
   ·have s:2*(k:Int)+1=(n:Int):=by omega
    have a8:(2*(k:Int)+1==(n:Int))=true:=beq_iff_eq.2 s
    have L:=hid (show(bz xs)=(bz xs).take k++[x]from by
     have h1:=uM xs k x HX.out (by rw[A.out];exact b);have h2:(bz xs).length=k+1:=by rw[D.out,A.out];omega
     conv=>lhs;rw[←List.take_of_length_le (i:=k+1) (Nat.le_of_eq h2)]
     obtain⟨h3,h4⟩:=List.getElem?_eq_some_iff.1 h1;rw[List.take_succ_eq_append_getElem h3,h4])
    have c0:=j.cell f.out;have ad:=hid b;clear b
    go_wp2_with (first
     |((with_reducible refine aT 45 9 1 ?parts [.string x] (.string ByteArray.empty) 1 16 (some 21) underlying45 Ap (by omega) (by omega) ?hgd ?ho ?hd ?hf ?_);(case hgd|ho|hd=>rfl);(case hf=>kernel_rfl);(intro g7 w7 l7 B7 e7 z7;(have I:=d.out.trans (e7.mono (Nat.le_trans d.out.size l7)));(have C:=own_below (e7.mono l7) o.out)))
     |(at_builtin;refine wpList_append_own_wide _ rfl _ _ 45 rfl w.heap.size 9 i0 (.string ByteArray.empty) 1 16 underlying45 Q T U V rfl (by decide) _ k _ rfl C ⟨g7,0,none⟩ 1 1 [.string x] rfl rfl (bJ B7) (by intro v S;simp at S;rcases S with rfl;rfl) (by unfold maxLen;omega) (by omega) I.size ?_;intro v' w8 W H bt)
     |fail)
    go_ret;refine⟨⟨_,rfl, ?_⟩,eh I C H (Nat.le_refl _) I.size⟩;have h2:(bz xs).length=k+1:=by have:=ad.out;rw[D.out,A.out];omega
    rw[h2];rw[L.out,List.map_append];exact W
   ·have R:¬2*(k:Int)+1=(n:Int):=by omega
    have a8:(2*(k:Int)+1==(n:Int))=false:=beq_eq_false_iff_ne.2 R;have bm:2*(k:Int)+1<(n:Int):=by omega
    obtain⟨y,hy⟩:∃y,xs[2*k+1]?=some y:=⟨_,List.getElem?_eq_getElem (by have:=A.out;omega)⟩;have HY:=hid hy;have l:=hid (show(xs.map Value.string++z)[2*k+1]?=some (.string y)from by rw[List.getElem?_append_left (by rw[List.length_map,A.out];omega),List.getElem?_map,HY.out];rfl);have a0:=hid (HS.out y (List.mem_of_getElem? hy));clear hy;go_upto_region 7 with fail;refine hb (fun wx=>wx.cell? ⟨g,2*k,none⟩=some (.string x)∧wx.cell? ⟨g,2*k+1,none⟩=some (.string y)) (⟨j.drew.cell f.out,j.drew.cell l.out⟩) fun a=> ?_
    refine hp 0 ?_;refine hp 1 ?_;refine hp 2 ?_;refine hp 3 ?_;refine hp 4 ?_;refine hp 5 ?_;refine hp 6 ?_;refine hp 7 ?_;refine hp 8 ?_;refine hp 9 ?_;refine hc 10 fun K B=> ?_
    go_simp
    refine(qW x y _ aA.out a0.out).mono ?_
    rintro e wa ⟨t,rfl,tt,P⟩;have r:Below wr.heap.size wr wa:=(Below.refl _ _).drew.trans (P.mono (Nat.le_refl _));have a1:=hid tt;have m:=hid (j.below r j.lt);have ah:=hid (own_below r o.out);have J:=hid (d.trans (r.mono d.size));clear P r tt
    (try go_wp2_with fail)
    refine B.out _ _ (⟨m.cell f.out,m.cell l.out⟩) fun _=> ?_
    clear B K a;rename_i a
    (try go_frame)
    refine hc 11 fun K B=> ?_
    go_simp;obtain⟨wb,u⟩:∃wb,wb=wa.alloc (Obj.cells #[.string t] 9):=⟨_,rfl⟩;rw[←u];have q:Below wa.heap.size wa wb:=by rw[u];exact(Below.refl _ _).alloc (Nat.le_refl _) _
    have aq:=hid (show ac wb wa.heap.size [.string t] 9 from by rw[u];exact ac.new wa _ _);have F:=hid (m.below q m.lt);have G:=hid (own_below q ah.out);have E:=hid (J.trans (q.mono J.size));clear u q
    (try go_wp2_with fail)
    refine B.out _ _ (⟨F.cell f.out,F.cell l.out⟩) fun _=> ?_
    clear B K a;rename_i a
    (try go_frame)
    refine hc 12 fun K B=> ?_
    refine wp_append_own_wide _ _ _ 45 rfl w.heap.size 9 i0 (.string ByteArray.empty) 1 16 underlying45 Q T U V rfl (by decide) _ k _ rfl G.out ⟨wa.heap.size,0,none⟩ 1 1 [.string t] rfl rfl (bJ aq.out) (by intro v S;simp at S;rcases S with rfl;rfl) (by unfold maxLen;omega) (by omega) E.size ?_;intro v' wc own9 grow9 nil9;have M:=hid (F.grown grow9 (own_ne G.out Z.out));have an:=hid own9;have Y:=hid (eh E.out G.out grow9 (Nat.le_refl _) E.size);obtain⟨p9,q9,bb⟩:=aD own9;subst bb;clear own9 grow9 nil9;refine B.out _ _ (⟨M.cell f.out,M.cell l.out⟩) fun _=> ?_
    clear B K a;rename_i a
    (try go_frame)
    refine hp 13 ?_;refine hd ?_;clear a;go_wp2_with fail;go_roundw
    case rel=>
     refine⟨k+1,by omega,by go_num,hid ?_,Y⟩;have h1:=pF xs k x y HX.out HY.out;obtain⟨h3,h4⟩:=List.getElem?_eq_some_iff.1 h1;rw[List.take_succ_eq_append_getElem h3,h4,List.map_append];have O:=an.out;rw[show t=kQ x y from a1.of]at O;exact O
    case measure=>simp[intOf];omega
  ·have b3:(n:Int)≤2*(k:Int):=by omega
   have N:=hid (show(bz xs).length=k from by rw[D.out,A.out];omega);go_wp2_with fail;go_ret;refine⟨⟨_,rfl, ?_⟩,d.out⟩;have O:=o.out;rw[List.take_of_length_le (Nat.le_of_eq N.out)]at O;rw[N.out];exact O
def EU {α:Type} (P:Program) (g:Nat) (lb:Array Value) (enc:α→Array Value) (H:List α→α→World→Prop) (Kp:World→World→Prop) (S:List α→Prop) (w:World):Prop:=
 ∀(l:Nat) (J:List α→World→Prop) (W:World),Below w.heap.size w W→AbidesFrom W.heap.size J→
  (∀pre x W1,J pre W1→H pre x W1→YieldAt Fence.wide 2 P l (enc x) W1 fun e W'=>e= .returned (.bool true)∧J (pre++[x]) W'∧Kp W1 W')→
  J [] W→CallsIn Fence.wide 3 P g (#[.func (.yield l) #[] #[]]++lb) W fun e W'=>(∃v,e= .returned v)∧∃xs,S xs∧J xs W'
def Aq {α:Type} (Kp:World→World→Prop) (I:List α→World→Prop) (xs:List α) (W:World):Exit→Act→World→Prop
 | .normal,_,W'=>KeepsOthers W W'∧Kp W W'∧I xs W'
 |_,_,_=>False
theorem ly {α:Type} {P:Program} {g:Operand} {ps:Array Tmp} {assign body:Code} {Q:Exit→Act→World→Prop} {a:Act} {w:World} {gf:Nat} {lb:Array Value}
  {enc:α→Array Value} {H:List α→α→World→Prop} {Kp:World→World→Prop} {S:List α→Prop}
  (hg:a.eval g= .func (.func gf) #[] lb) (eg:∀args w,(callFunc gf args).run P w= .ok (.enter gf args) w) (hseq:EU P gf lb enc H Kp S w)
  (hKt:∀{A B C:World},Kp A B→Kp B C→Kp A C) (hKb:∀(W:World) (l:Nat) (o o':Obj),w.heap.size≤l→W.heap[l]?=some o→o.isCells=false→o.isWalk=false→Kp W (W.putObj l o'))
  (hps:∀x,(enc x).size=ps.size) (I:List α→World→Prop) (hI:OwnFrom w.heap.size I) (hH:∀pre,OwnFrom w.heap.size (H pre)) (h0:I [] w) (a1:α→Act)
  (hassign:∀(l:Nat) (x:α) (W:World) (K:Act→World→Prop),K (a1 x) W→assign.wpIn (Fence.wide.inRound l) 2 P (Exit.then K (fun _ _ _=>False)) {tmps:=(ps.zip (enc x)).foldl (fun t (p,v)=>t.setIfInBounds p v) a.tmps,defers:=[]} W)
  (hbody:∀(l:Nat) (pre:List α) (x:α) (W:World),I pre W→H pre x W→body.wpIn (Fence.wide.inRound l) 2 P (Aq Kp I (pre++[x]) W) (a1 x) W)
  (hdone:∀(D:Nat) (xs:List α) (W:World),w.heap.size≤D→S xs→I xs W→W.heap[D]?=some (.deferred (some []))→Q .normal {a with defers:={target:= .collected D,args:=#[]}::a.defers} W):
  (Code.rangeFunc g ps assign body).wp P Q a w:=by
 refine(wpIn_wide (n:=4)).1 (wpIn_rangeFunc ?_)
 intro fn hfn;obtain⟨rc,hrc⟩:∃rc:LoopState→Option Code→Loop,rc=fun st pe=>{state:=st,pending:=pe,fn,tmps:=a.tmps,params:=ps,assign,body,defers:=w.heap.size}:=⟨_,rfl⟩
 obtain⟨W1,hW1⟩:∃W1,(w.alloc (.deferred (some []))).alloc (.loop (rc .ready none))=W1:=⟨_,rfl⟩
 have hL1:W1.heap[w.heap.size+1]?=some (.loop (rc .ready none)):=by
  rw[←hW1];have:=World.alloc_heap_new (w.alloc (.deferred (some []))) (.loop (rc .ready none));rwa[World.size_alloc]at this
 have hK1:W1.heap[w.heap.size]?=some (.deferred (some [])):=by
  rw[←hW1];exact(Below.heap_alloc _ _ _ (by simp)).trans (World.alloc_heap_new w _)
 have hI1:I [] W1:=by rw[←hW1];exact hI.alloc _ (hI.alloc _ h0)
 have hb1:Below w.heap.size w W1:=by
  rw[←hW1];exact((Below.refl _ w).alloc (Nat.le_refl _) _).alloc (by simp) _
 have hs1:w.heap.size≤W1.heap.size:=hb1.size
 have hnw:∀{A B:World} {row:Option Nat},(∀r,row=some r→W1.heap.size≤r∧∃o:Obj,A.heap[r]?=some o∧o.isWalk=true)→(∀r,row=some r→w.heap.size≤r∧∃o:Obj,A.heap[r]?=some o∧o.isCells=false):=
  fun hr r e=>by obtain⟨hB,o,ho,hw⟩:=hr r e;exact⟨by omega,o,ho,Obj.not_cells_of_walk hw⟩
 refine⟨w.heap.size+1,[{target:= .collected w.heap.size,args:=#[]}],W1,{target:= .fn (.func gf) lb,args:=#[.func (.yield (w.heap.size+1)) #[] #[]]},W1,gf,#[.func (.yield (w.heap.size+1)) #[] #[]]++lb,W1, ?_, ?_, ?_, ?_,fun _=>by omega, ?_⟩
 ·rw[←hW1,hrc];exact run_enterLoop_outer _ _ _ _ _
 ·simp only[resolve,hg];simp[go_sem]
 ·intro f' _;trivial
 ·simp[invoke,go_sem,eg]
 ·refine(hseq (w.heap.size+1) (fun pre W=>I pre W∧W.heap[w.heap.size+1]?=some (.loop (rc .ready none))∧W.heap[w.heap.size]?=some (.deferred (some []))) W1 hb1
   (fun s A B row hs hg' hr=>⟨hI s A B row hs.1 hg' (hnw (B:=B) hr),(grownBy_keeps hg' (fun r e=>(hr r e).2) hs.2.1 rfl).trans hs.2.1,(grownBy_keeps hg' (fun r e=>(hr r e).2) hs.2.2 rfl).trans hs.2.2⟩) ?_ ⟨hI1,hL1,hK1⟩).mono ?_
  ·rintro pre x W ⟨hi,hl,hk⟩ hx
   have hlt:w.heap.size+1<W.heap.size:=(Array.getElem?_eq_some_iff.1 hl).1;have hy:=run_yield (P:=P) (args:=enc x) hl (by rw[hrc];exact hps x);rw[hrc]at hy;refine⟨fn,_,assign,body,hy,roundIn_of_wpIn hfn (hassign _ x W _ ⟨_,run_beginRound hl (by rw[hrc]), ?_⟩)⟩;have hl2:(W.putObj (w.heap.size+1) (.loop {rc .ready none with state:= .busy})).heap[w.heap.size+1]?=some (.loop {rc .ready none with state:= .busy}):=World.putObj_heap_same hlt;have hk2:(W.putObj (w.heap.size+1) (.loop {rc .ready none with state:= .busy})).heap[w.heap.size]?=some (.deferred (some [])):=(World.putObj_heap_other (by omega)).trans hk;have hw2:Kp W (W.putObj (w.heap.size+1) (.loop {rc .ready none with state:= .busy})):=hKb _ _ _ _ (by omega) hl rfl rfl;refine wpIn_mono (hbody _ pre x _ (hI.putObj _ hi (by omega) hl rfl) ((hH pre).putObj _ hx (by omega) hl rfl)) ?_;rintro e a3 W3 hp
   cases e with
   |normal=>
    obtain⟨hk3,hkp3,hi3⟩:=hp;have hl3:=hk3.same _ _ hl2 rfl;have hr:=run_endRound (P:=P) none hl3;rw[hrc]at hr;rw[hrc]at hl3;exact⟨_,_,hr,rfl,⟨hI.putObj _ hi3 (by omega) hl3 rfl,by rw[hrc];exact World.putObj_heap_same (Array.getElem?_eq_some_iff.1 hl3).1,(World.putObj_heap_other (by omega)).trans (hk3.same _ _ hk2 rfl)⟩,hKt (hKt hw2 hkp3) (hKb _ _ _ _ (by omega) hl3 rfl rfl)⟩
   |_=>exact hp.elim
  ·rintro e W2 ⟨⟨v,rfl⟩,xs,hS,hi,hl,hk⟩
   exact⟨none,_,by have:=run_endLoop (P:=P) hl (by rw[hrc];simp);rw[hrc]at this;exact this,hdone _ xs _ (Nat.le_refl _) hS (hI.putObj _ hi (by omega) hl rfl) ((World.putObj_heap_other (by omega)).trans hk)⟩
attribute [local go_sem] Go.Oper.semAt_some
structure cO where
 p:Option Addr
 n:Nat
 c:Nat
 xs:List ByteArray
def lz (x:cO):Array Value:=#[.slice x.p x.n x.c]
structure pG (x:cO) (w:World):Prop where
 own:w.ownsRow 0 9 1 (.slice x.p x.n x.c) x.n (x.xs.map .string)
 len:x.xs.length=x.n
def sliceLen:Value→Nat
 | .slice _ n _=>n
 |_=>0
structure kS (b:Nat) (w w':World):Prop where
 size:w.heap.size≤w'.heap.size
 same:∀(k:Nat) (o:Obj),k≠b→w.heap[k]?=some o→o.isCells=true→w'.heap[k]?=some o
theorem kS.own {b:Nat} {w f:World} {v:Value} {n:Nat} {xs:List Value} {e:TypeId} {size:Nat} (h:kS b w f) (d:w.ownsRow 0 e size v n xs) (hb:v.ownBlock≠some b):f.ownsRow 0 e size v n xs:=by
 refine⟨d.1,d.2.imp id ?_⟩;rintro⟨g,a,c,rfl,i,j,r⟩;exact⟨g,a,c,rfl,i,h.same g _ (fun e=>hb (by rw[e];rfl)) j rfl,r⟩
theorem Dc {w i:World} {v:Value} {n:Nat} {xs:List Value} {e:TypeId} {size:Nat} {b:Option Nat} (h:w.ownsRow 0 e size v n xs) (l:w.grownBy i b) (m:∀r,b=some r→∃o:Obj,w.heap[r]?=some o∧o.isCells=false):i.ownsRow 0 e size v n xs:=by
 refine⟨h.1,h.2.imp id ?_⟩;rintro⟨g,d,f,rfl,j,a,r⟩;have hl:=(Array.getElem?_eq_some_iff.1 a).1;refine⟨g,d,f,rfl,j,(l.block g hl (fun e=> ?_)).trans a,r⟩;obtain⟨o,c,k⟩:=m g e.symm;rw[a]at c
 injection c with c
 subst c
 cases k
theorem Ar (B:Nat):OwnFrom B pG:=fun x W d c h a b=>⟨Dc h.own a (fun r e=>(b r e).2),h.len⟩
theorem As (b m:Nat) (p:Option Addr) (n c:Nat) (xs:List ByteArray) (w:World) (hb:ac w b [.slice p n c] 45) (V:w.ownsRow 0 9 1 (.slice p n c) n (xs.map .string)) (hl:xs.length=n) (X:∀x∈xs,x.size=32) (hn:n≤65536) (R:m<w.heap.size) (t:(Value.slice p n c).ownBlock≠some m):
  EU prog 294 #[.pointer (some ⟨b,0,none⟩)] lz (fun _=>pG) (kS m) (fun ys=>ys.map cO.xs=bu n xs) w:=by
 intro r J W A S U Q;have HB:=hid (hb.below A hb.lt);have HO:=hid (own_below A V);have HL:=hid hl;have HS:=hid X;have HY:=hid U;have HJ:=hid S;have Z:=hid Q;have H4:=hid (Nat.lt_of_lt_of_le R A.size);have D:=hid t;clear hb V hl X U S Q R t A;have cb:=HB.cell (i:=0) rfl;refine callsIn_of_wp func294 rfl trivial ?_ rfl;simp only[ntmps294,List.size_toArray,List.length_cons,List.length_nil,Nat.reduceAdd,Nat.reduceSub,Array.replicate_succ,Array.replicate_zero,List.push_toArray,List.append_toArray,List.nil_append,List.cons_append]
 gi_wp2_with fail
 refine jW ?_
 gi_wp2_with fail
 refine wpIn_label ?_
 gi_wp2_with fail
 gi_loopw [3] (fun o wr=>∃(pre:List cO) (y:cO),o= .slice y.p y.n y.c∧Hid (J pre wr)∧Hid (pG y wr)∧Hid (∀x∈y.xs,x.size=32)∧y.n≤65536∧Hid ((Value.slice y.p y.n y.c).ownBlock≠some m)∧Hid (m<wr.heap.size)∧Hid (∃f,y.n≤f∧bu n xs=pre.map cO.xs++bu f y.xs)) (fun o _=>sliceLen o)
 case atStart=>exact⟨[],⟨p,n,c,xs⟩,rfl,Z,hid ⟨HO.out,HL.out⟩,HS,hn,D,H4,hid ⟨n,Nat.le_refl _,rfl⟩⟩
 case round=>
  obtain⟨pre,y,rfl,C,a,l,M,E,B,N⟩:=hrel;obtain⟨fn,Y,u,P,hy,T⟩:=HY.out pre y wr C.out a.out
  dsimp only[lz]at hy
  have HR:=hid T;clear T
  gi_wp2_with fail
  refine HR.mono ?_;rintro e W3 ⟨rfl,q,d⟩;have k:=hid q;have F:=hid (d.own a.own E.out);have g:=hid (Nat.lt_of_lt_of_le B.out d.size);clear q d hy
  by_cases h2:y.n<2
  ·have G:(y.n:Int)<2:=by omega
   have HE:=hid (show(pre++[y]).map cO.xs=bu n xs from by
    obtain⟨f,hf,h⟩:=N.out;rw[h,List.map_append]
    congr 1
    cases f with
    |zero=>rfl
    |succ f=>rw[bu,if_pos (by rw[a.len];exact h2)];rfl)
   gi_wp2_with fail
   rw[Exit.noGoto_normal];refine bodyPost_end (results_none rfl _ _ _) rfl ?_;exact⟨⟨_,rfl⟩,_,HE.out,k.out⟩
  ·have G:¬(y.n:Int)<2:=by omega
   gi_wp2_with (first
    |(refine⟨trivial, ?_⟩;gi_at_call 295;refine(callsIn_wide.2 (uN y.p y.n y.c y.xs _ F.out a.len l.out M)).mono ?_;rintro e w5 ⟨⟨v,rfl,K⟩,s⟩;have O:=hid K;have j:=hid s;obtain⟨pv,o,I⟩:=aD K;subst I;clear K s)
    |fail)
   go_roundw
   case rel=>
    have H:=eT y.xs;have L:=a.len;refine⟨pre++[y],⟨pv,(bz y.xs).length,o,bz y.xs⟩,rfl,hid (HJ.out _ _ _ none k.out (below_grown j.out) (fun r e=>by cases e)),hid ⟨ja O.out,rfl⟩,hid (kR _ l.out),by show(bz y.xs).length≤_;omega,hid (fun e=> ?_),hid (Nat.lt_of_lt_of_le g.out j.size),hid ?_⟩
    ·have:=(O.lt _ e).1
     have:=g.out
     omega
    ·obtain⟨f,hf,h⟩:=N.out
     obtain⟨z,rfl⟩:∃z,f=z+1:=⟨f-1,by omega⟩;refine⟨z,by show(bz y.xs).length≤z;omega, ?_⟩;rw[h,bu,if_neg (by omega),List.map_append];simp
   case measure=>
    have H:=eT y.xs;have L:=a.len
    show(bz y.xs).length<y.n
    omega
theorem Df {b:Nat} {A B C:World} (h:kS b A B) (k:kS b B C):kS b A C:=⟨Nat.le_trans h.size k.size,fun i o a c hc=>k.same i o a (h.same i o a c hc) hc⟩
theorem xG {b:Nat} (W:World) (l:Nat) (o d:Obj) (hl:W.heap[l]?=some o) (hc:o.isCells=false):kS b W (W.putObj l d):=
 ⟨(grownBy_putObj' W l d).size,fun k x f a c=>((grownBy_putObj' W l d).block k (Array.getElem?_eq_some_iff.1 a).1 (fun e=>by
   injection e with e
   subst e;rw[hl]at a
   injection a with a
   subst a;rw[hc]at c
   cases c)).trans a⟩
theorem GI {b:Nat} (W:World) (j:Nat) (v:Value):kS b W (W.setCell ⟨b,j,none⟩ v):=
 ⟨by simp,fun k x c a _=>((xt W b j v).block k (Array.getElem?_eq_some_iff.1 a).1 (fun e=>by injection e with e;exact c e)).trans a⟩
theorem EV {b:Nat} (W:World):kS b W W:=⟨Nat.le_refl _,fun _ _ _ h _=>h⟩
def lA (s:ByteArray) (ls:List (List ByteArray)):ByteArray:=ls.foldl fy s
theorem yP (p:Option Addr) (n c:Nat) (xs:List ByteArray) (w:World) (h:w.ownsRow 0 9 1 (.slice p n c) n (xs.map .string)) (hl:xs.length=n) (Q:∀x∈xs,x.size=32) (hn:n≤4096):
  Calls prog 242 #[.slice p n c] w fun e w'=>(∃s,e= .returned (.tuple #[.string s, .int .i64 0])∧aj s (rO xs))∧Below w.heap.size w w':=by
 have HO:=hid h;have T:=hid hl;have HS:=hid Q;have V:=hid (fun k (Z:(Value.slice p n c).ownBlock=some k)=>(h.lt k Z).2);clear h hl Q;refine kH func242 rfl ?_;simp only[ntmps242,List.size_toArray,List.length_cons,List.length_nil,Nat.reduceAdd,Nat.reduceSub,Array.replicate_succ,Array.replicate_zero,List.push_toArray,List.append_toArray,List.nil_append,List.cons_append];go_wp2_with fail
 refine(jV p n c xs _ HO.out T.out HS.out (by omega)).mono ?_
 rintro e w1 ⟨rfl,rfl⟩;go_wp2_with fail
 refine(sR none 0 _).mono ?_
 rintro e w2 ⟨f,rfl,N,M⟩;have U:=hid N;have j:=hid M;clear N M;go_wp2_with fail;obtain⟨b4,a⟩:∃b4,b4=w2.heap.size:=⟨_,rfl⟩;obtain⟨w3,t⟩:∃w3,w3=w2.alloc (Obj.cells #[.string f] 9):=⟨_,rfl⟩;rw[←a,←t];have J:ac w3 b4 [.string f] 9:=by rw[a,t];exact ac.new w2 [.string f] 9
 have L:Below w.heap.size w w3:=by rw[t];exact j.trans (((Below.refl _ _).alloc (Nat.le_refl _) _).mono j.size)
 have I:w.heap.size≤b4:=by rw[a];exact j.size
 have E:=hid J;have G:=hid L;have C:=hid I;clear a t j J L I
 refine(nT p n c _).mono ?_
 rintro e wA ⟨bl,rfl,BL,lL,v⟩;have R:=hid BL;have F:=hid (E.below v E.lt);have u:=hid (G.trans (v.mono G.size));clear BL lL v;go_wp2_with fail;have hA:w.heap.size≤wA.heap.size:=u.size
 refine ly (enc:=lz) (H:=fun _=>pG) (Kp:=kS b4) (S:=fun y=>y.map cO.xs=bu n xs) rfl (enters_of func294 (by kernel_rfl) rfl)
  (As bl b4 p n c xs wA R.out (own_below u.out HO.out) T.out HS.out (by omega) F.lt (fun e=>by have:=V.out b4 e;have:=C.out;omega)) Df (fun W l o o' _ hl hc _=>xG W l o o' hl hc) (fun x=>rfl)
  (fun pre W=>ac W b4 [.string (lA f (pre.map cO.xs))] 9∧Below w.heap.size w W)
  (OwnFrom.and (Own.from (fun s A B bi Q hg hr=>Q.iceless hg hr) _) (ownFrom_below (Nat.le_refl _) hA)) (fun _=>Ar _) ⟨F.out,u.out⟩
  (fun x=>{tmps:=#[.slice p n c,undef, .string ⟨#[]⟩, .int .i64 0, .pointer (some ⟨b4,0,none⟩), .slice x.p x.n x.c, .slice p n c, .bool true, .bool false, .string f, .slice p n c, .func (.func 294) #[] #[.pointer (some ⟨bl,0,none⟩)], .slice x.p x.n x.c,undef,undef,undef,undef,undef,undef,undef],defers:=[]}) ?assign ?body ?done
 case assign=>
  intro r x W K P
  dsimp only[lz]
  gi_wp2
  exact P
 case body=>
  rintro r pre x W ⟨a,O⟩ hx;have z4:=a.cell (i:=0) rfl;have f4:=a.free 0;obtain⟨q,m,d,y⟩:=x;have b:=hx.len;simp only at b
  by_cases h1:m=1
  ·subst h1
   obtain⟨x0,rfl⟩:∃x0,y=[x0]:=by
    rcases y with _|⟨x0,_|⟨_,_⟩⟩
    ·simp at b
    ·exact⟨x0,rfl⟩
    ·simp at b
   obtain⟨g,a6,z,X,_,_,Z⟩:=bO hx.own (by show 0<1;omega)
   injection X with X _ _
   have cg:=Z.cell (i:=0) rfl;have Y:q=some ⟨g,0,none⟩:=X;subst Y
   gi_wp2_with fail
   refine⟨KeepsOthers.setCell _ _ _,GI W 0 _, ?_,O.setCell (p:=⟨b4,0,none⟩) (by show w.heap.size≤b4;exact C.out) _⟩;have e:∀d',lA f ((pre++[(⟨some ⟨g,0,none⟩,1,d',[x0]⟩:cO)]).map cO.xs)=x0:=fun d'=>by simp[lA,fy]
   rw[e];exact a.set 0 (.string x0)
  ·have a7:((m:Int)==1)=false:=beq_eq_false_iff_ne.2 (by omega)
   have a2:¬(m:Int)=1:=by omega
   gi_wp2_with fail
   refine⟨ux W,EV W, ?_,O⟩
   have e:lA f ((pre++[(⟨q,m,d,y⟩:cO)]).map cO.xs)=lA f (pre.map cO.xs):=by
    simp only[lA,List.map_append,List.foldl_append,List.map_cons,List.map_nil,List.foldl_cons,List.foldl_nil];unfold fy;rw[if_neg (by rw[b];exact h1)]
   rw[e];exact a
 case done=>
  rintro D y W hD hS ⟨a,O⟩ P;have z4:=a.cell (i:=0) rfl;go_wp2_with fail;refine⟨by simp, .inl ⟨_,_,rfl,run_takeDeferred P, ?_⟩⟩;refine⟨.tuple #[.string (lA f (y.map cO.xs)), .int .i64 0], ?_,⟨_,rfl, ?_⟩,O.trans (belowK_b (w:=w) (Nat.le_refl _) W D _ _ (by omega) P rfl rfl)⟩
  ·simp[results,f242,go_sem]
   rw[hS]
  ·rw[hS]
   unfold rO lA;rw[T.out,show f=⟨(dO []).toArray⟩from U.of]
   rfl
open Go.Maps Go.WideMaps
def kT (l:List ap):List UInt8:=rO (bG l)
theorem Dh (p:Option Addr) (n c:Nat) (l:List ap) (w:World) (h:ed w p n l) (v:fp l) (hn:n≤4096):
  Calls prog 174 #[.slice p n c] w fun e w'=>(∃s,e= .returned (.tuple #[.string s, .int .i64 0])∧aj s (kT l))∧Below w.heap.size w w':=by
 have m:=hid h;have g:=hid v;clear h v;go_enter func174,ntmps174;go_wp2_with fail
 refine(nS p n c l _ m.out g.out (by omega)).mono ?_
 rintro e C ⟨rfl,a⟩;have b:=hid a;have o:=hid (m.below a);clear a;go_wp2_with fail
 refine(mK p n c l _ o.out g.out (by omega)).mono ?_
 rintro e D ⟨⟨B,rfl,t⟩,i⟩;have f:=hid (b.trans (i.mono b.size));obtain⟨q,d,rfl⟩:=aD t;have A:=hid (ja t);clear i t;go_wp2_with fail
 refine(yP q n d (bG l) _ A.out (by unfold bG;rw[List.length_map];exact m.out.1) (fun x u=> ?_) hn).mono ?_
 ·unfold bG at u
  obtain⟨y,_,rfl⟩:=List.mem_map.1 u
  show(f7 y).toArray.size=32
  simpa using gj y
 rintro e E ⟨⟨s,rfl,z⟩,j⟩;have r:=hid z;have k:=hid (f.trans (j.mono f.size));clear j z;go_wp2_with fail;go_ret2;exact⟨⟨s,rfl,r.out⟩,k.out⟩
theorem yQ (i B n:Nat) (ep:Int) (D:DataW Unit) (f:Int→Option (List UInt8)) (w:World) (h:dR w i B n ep D) (o:iZ D f) (p:gk f):
  Calls prog 83 #[.pointer (some ⟨i,0,none⟩)] w fun e w'=>(∃s,e= .returned (.string s)∧aj s (kT (aC f 4096)))∧Below w.heap.size w w':=by
 have m:=hid h;have u:=hid o;have v:=hid p;clear h o p;go_enter func83,ntmps83;go_wp2_with fail
 refine(fF i B n _ _ _ m.out).mono ?_
 rintro e y ⟨rfl,rfl⟩;go_wp2_with fail
 refine(kx i B n ep D f _ m.out u.out).mono ?_
 rintro e z ⟨⟨x,rfl,r⟩,b⟩;have a:=hid b;obtain⟨q,d,rfl,g⟩:=ed.own r rfl;have k:=hid g;clear b r g;go_wp2_with fail
 refine(Dh q _ d (aC f 4096) _ k.out (kP v.out 4096 (Nat.le_refl _)) (se f 4096)).mono ?_
 rintro e A ⟨⟨s,rfl,t⟩,c⟩;have l:=hid t;have j:=hid (a.trans (c.mono a.size));clear c t;go_wp2_with fail;go_ret;exact⟨⟨s,rfl,l.out⟩,j.out⟩
inductive gP where
 |cell (c:aw)
 |held (s:ByteArray)
structure iq (v:ak) (k:Nat) (c:aw):Prop where
 ok:bI c
 slot:c.slot=(k:Int)
 lba:c.lba<v.last.geo.lbas
 e0:v.first≤c.epoch
 e1:c.epoch≤v.epoch
 txt:aj (v.d.shown (4+(k:Int))) (cellL c)
structure LQ (v:ak) (k:Nat) (s:ByteArray):Prop where
 n0:1≤s.size
 n1:s.size≤4000
 txt:aj (v.d.shown (4+(k:Int))) (holdL s.data.toList)
def fa (v:ak) (k:Nat):gP→Prop
 | .cell c=>iq v k c
 | .held s=>LQ v k s
theorem fa.size {v:ak} {k:Nat} {e:gP} (h:fa v k e):(v.d.shown (4+(k:Int))).size=4096:=by
 cases e with
 |cell c=>rw[h.txt.size,gh c h.ok.n]
 |held s=>rw[h.txt.size,mA _ h.n1]
def gP.taken:gP→Ending
 | .cell c=> .returned (.tuple #[.agg c.cells.toArray, .int .i64 0])
 | .held _=> .returned (.tuple #[.agg dL.toArray, .int .i64 3])
theorem yR {a:ByteArray} {c:aw} {s:List UInt8} (hc:aj a (cellL c)) (f:aj a (holdL s)):False:=by
 have h:cellL c=holdL s:=(show a.data.toList=cellL c from hc).symm.trans f;have b:=congrArg List.head? h
 have d:(cellL c).head?=(beBytes 1 (bU c).toNat).head?:=by
  have hl:(beBytes 1 (bU c).toNat).length=1:=beBytes_length _ _;unfold cellL gd di dz;obtain⟨x,g⟩:=List.length_eq_one_iff.1 hl;simp[dG,g]
 have e:(holdL s).head?=some 3:=by simp[holdL,gd]
 rw[d,e]at b
 rcases nK c with h2|h2<;>rw[h2]at b<;>revert b<;>decide
theorem fa.taken {v:ak} {k:Nat} {x:gP} {e:Ending} (h:fa v k x) (a:lw (v.d.shown (4+(k:Int))) e):e=x.taken:=by
 cases x with
 |cell c=>
  rcases a with⟨d,hd,td,rfl⟩|⟨hno,_⟩
  ·obtain rfl:c=d:=xn h.ok hd ((show(v.d.shown (4+(k:Int))).data.toList=cellL c from h.txt).symm.trans td)
   rfl
  ·exact absurd h.txt (hno c h.ok)
 |held s=>
  rcases a with⟨d,hd,td,_⟩|⟨_,rfl⟩
  ·exact(yR td h.txt).elim
  ·rfl
theorem yS (i:ar) (v:ak) (k:Int) (w:World) (h:am w i v) (G:bC v) (E:0≤k) (F:k<v.used) (hb:(v.d.shown (4+k)).size=4096):
  Calls prog 62 #[.pointer (some ⟨i.vb,0,none⟩), .int .i64 k] w fun e w'=>lw (v.d.shown (4+k)) e∧Below w.heap.size w w':=by
 have y:=hid G;have C:=hid (show 0≤k∧k<v.used from⟨E,F⟩);have B:=hid hb;have x:=hid h;clear G E F hb h;have J:w.cell? ⟨i.vb,0,none⟩=some (.pointer (some ⟨i.jb,0,none⟩)):=x.vol.cell (i:=0) rfl;go_enter func62,ntmps62
 go_wp2_with (first
  |((with_reducible refine ab 134 _ zeroCell (some 4) ?hgd ?ho ?hd ?_);(case hgd|ho|hd=>rfl);(intro D L s A t N;have K:L.cell? ⟨i.vb,0,none⟩=some (.pointer (some ⟨i.jb,0,none⟩)):=((x.out.below (t.mono s)).vol.cell (i:=0) rfl)))
  |fail)
 have n:=hid A;have r:=hid s;have b:=hid (t.mono s);have H:=hid (x.below (t.mono s));clear A s t N K J
 refine(pj i v k _ H.out y.out C.out.1 C.out.2).mono ?_
 rintro e O ⟨rfl,l⟩;have o:=hid (n.below l n.lt);have f:=hid (b.trans (l.mono b.size));clear l;obtain⟨blk,a⟩:∃blk,v.d.shown (4+k)=blk:=⟨_,rfl⟩;rw[a];rw[a]at B;have q:=hid a;clear a;go_wp2_with fail
 refine(mD blk _ B.out).mono ?_
 rintro e P ⟨I,m⟩;have p:=hid (o.below m o.lt);have g:=hid (f.trans (m.mono f.size));clear m
 rcases I with⟨c,hc,ht,rfl⟩|⟨hno,rfl⟩
 ·have j:=hid (show lw (v.d.shown (4+k)) (.returned (.tuple #[.agg c.cells.toArray, .int .i64 0]))from by rw[q.out];exact .inl ⟨c,hc,ht,rfl⟩)
  clear hc ht
  go_wp2_with (first
   |((with_reducible refine aa 134 (.tmp 4) (.tmp 23) D dL c.cells 134 p.out rfl bB (dj _) ?hgd ?ho ?hx ?hy ?_);(case hgd|ho|hx|hy=>rfl);(intro M u z))
   |fail)
  (try simp only[Exit.inBlock,Exit.then]);refine bodyPost_ret (aE rfl _ _ u.range rfl underlying134 rfl bB) rfl ?_;exact⟨j.out,z.below g.out r.out⟩
 ·have j:=hid (show lw (v.d.shown (4+k)) (.returned (.tuple #[.agg dL.toArray, .int .i64 3]))from by rw[q.out];exact .inr ⟨hno,rfl⟩)
  clear hno
  go_wp2_with (first
   |((with_reducible refine aa 134 (.tmp 4) (.tmp 23) D dL (aw.cells ⟨0,0,0,false,⟨#[]⟩⟩) 134 p.out rfl bB (dj _) ?hgd ?ho ?hx ?hy ?_);(case hgd|ho|hx|hy=>rfl);(intro M u z))
   |fail)
  (try simp only[Exit.inBlock,Exit.then]);refine bodyPost_ret (aE rfl _ _ u.range rfl underlying134 rfl bB) rfl ?_;exact⟨j.out,z.below g.out r.out⟩
theorem kU (i:ar) (v:ak) (k:Nat) (x:gP) (w:World) (h:am w i v) (d:bC v) (c:(k:Int)<v.used) (b:fa v k x):
  Calls prog 62 #[.pointer (some ⟨i.vb,0,none⟩), .int .i64 (k:Int)] w fun e w'=>e=x.taken∧Below w.heap.size w w':=
 (yS i v k w h d (by omega) c b.size).mono fun e w' a=>⟨b.taken a.1,a.2⟩
def cr (ep:Int) (cs:List aw):Int→Option (List UInt8):=cs.foldl (fun f c=>fun j=>if j=c.lba then some (fB ep c.slot c.cipher.data.toList)else f j) (fun _=>none)
theorem j6 {ep:Int} {cs:List aw} {k:Nat} {c:aw} (hc:cs[k]?=some c):cr ep (cs.take (k+1))=fun j=>if j=c.lba then some (fB ep c.slot c.cipher.data.toList)else cr ep (cs.take k) j:=by
 obtain⟨a,b⟩:=List.getElem?_eq_some_iff.1 hc;unfold cr;rw[List.take_succ_eq_append_getElem a,List.foldl_append,b]
 rfl
def j7 (ep:Int) (cs:List aw):DataW Unit:=cs.foldl (fun D c=>D.put (.int .i64 c.lba) (.lit (.string (fB ep c.slot c.cipher.data.toList)))) (.map [])
theorem pH {ep:Int} {cs:List aw} {k:Nat} {c:aw} (hc:cs[k]?=some c):j7 ep (cs.take (k+1))=(j7 ep (cs.take k)).put (.int .i64 c.lba) (.lit (.string (fB ep c.slot c.cipher.data.toList))):=by
 obtain⟨a,b⟩:=List.getElem?_eq_some_iff.1 hc;unfold j7;rw[List.take_succ_eq_append_getElem a,List.foldl_append,b]
 rfl
theorem pI (ep:Int) (cs:List aw):∀k,k≤cs.length→iZ (j7 ep (cs.take k)) (cr ep (cs.take k))∧Maps.Tidy (j7 ep (cs.take k))
 |0,_=>⟨iZ.none,Maps.tidy_empty⟩
 |k+1,h=>by
  have hc:cs[k]?=some cs[k]:=List.getElem?_eq_getElem (by omega);obtain⟨a,b⟩:=pI ep cs k (by omega);rw[pH hc,j6 hc];exact⟨a.put _ _,b.put (show WideAt.IsKeyLit (.int .i64 cs[k].lba)from trivial) _⟩
theorem lW (ep:Int) (cs:List aw) (x:Int):∀k,k≤cs.length→(∀j c,cs[j]?=some c→j<k→c.lba≠x)→cr ep (cs.take k) x=none
 |0,_,_=>rfl
 |k+1,h,hd=>by
  have hc:cs[k]?=some cs[k]:=List.getElem?_eq_getElem (by omega);rw[j6 hc]
  show(if x=cs[k].lba then _ else _)= _
  rw[if_neg (fun e=>hd k _ hc (by omega) e.symm)];exact lW ep cs x k (by omega) (fun j c a b=>hd j c a (by omega))
theorem uO (ep:Int) (cs:List aw) (hd:∀(j k:Nat) (a b:aw),cs[j]?=some a→cs[k]?=some b→j<k→a.lba≠b.lba):∀k,k≤cs.length→Maps.size (j7 ep (cs.take k))=k
 |0,_=>rfl
 |k+1,h=>by
  have hc:cs[k]?=some cs[k]:=List.getElem?_eq_getElem (by omega);obtain⟨d,e⟩:=pI ep cs k (by omega);rw[pH hc,Maps.size_put e,d.has,lW ep cs _ k (by omega) (fun j c f g=>hd j k c _ f hc g),uO ep cs hd k (by omega)]
  rfl
theorem qi (i:ar) (v:ak) (ep:Int) (E:List af) (cs:List aw) (w:World) (h:am w i v) (ok:bC v) (e0:0≤ep) (e1:ep≤4294967295) (hE:bN v.vers ep=E) (X:v.vers.length≤4096) (H:cs.length=E.length)
  (S:∀(j:Nat) (x:af) (c:aw),E[j]?=some x→cs[j]?=some c→∃k:Nat,x.slot=(k:Int)∧(k:Int)<v.used∧iq v k c):
  Calls prog 59 #[.pointer (some ⟨i.vb,0,none⟩), .int .i64 ep] w fun e w'=>(∃I B,e= .returned (.tuple #[.pointer (some ⟨I,0,none⟩), .int .i64 0])∧dR w' I B cs.length ep (j7 ep cs))∧Below w.heap.size w w':=by
 have aq:=hid (fun(wx:World) (k:Nat) (c:aw) (hh:am wx i v) (hk:(k:Int)<v.used) (hc:iq v k c)=>kU i v k (.cell c) wx hh ok hk hc);obtain⟨m,C⟩:∃m,E.length=m:=⟨_,rfl⟩;have cz:m≤4096:=by have:=nl v.vers ep;rw[hE,C]at this;omega
 have HM:=hid C;have HE:=hid hE;have a8:=hid X;have K:=hid (H.trans C);have an:=hid S;rw[H,C];have l:=hid (show 0≤ep∧ep≤4294967295 from⟨e0,e1⟩);have HU:=hid (show v.used≤4294967295 from by have:=ok.u1;have:=ok.sup.geo.b1;omega);have H0:=hid h;clear ok h hE X e0 e1 H S C;go_enter func59,ntmps59;go_wp2_with fail
 refine(sd ep _ l.out.1 l.out.2).mono ?_
 rintro e w1 ⟨⟨I,B,rfl,W,hB,bl⟩,G⟩;have a1:=hid W;have HB:=hid hB;have t:=hid G;have Z:=hid (H0.below G);have v3:w1.cell? ⟨i.vb,3,none⟩=some (.pointer (some ⟨i.xb,0,none⟩)):=Z.vol.cell (i:=3) rfl;clear W hB bl G;go_wp2_with fail
 refine(ET i.xb _ i.xv v.vers ep _ Z.index Z.vers rfl a8.out).mono ?_
 rintro e w2 ⟨⟨ve,rfl,s⟩,o⟩;rw[HE.out,HM.out]at s;obtain⟨pe,ce,rfl⟩:=aD s;have a7:=hid s;have J:=hid (t.trans (o.mono t.size));have a2:=hid (a1.below o);have H2:=hid (Z.below o);clear v3 s o;go_wp2_with fail;go_loopw [24] (fun k wr=>∃(j:Nat),j≤m∧k= .int .i64 (j:Int)∧Hid (dR wr I B j ep (j7 ep (cs.take j)))∧Hid (wr.ownsRow 0 130 3 (.slice pe m ce) m (au E))∧Hid (Below w.heap.size w wr)) (fun k _=>m-(intOf k).toNat)
 case atStart=>exact⟨0,Nat.zero_le _,rfl,a2,hid (ja a7.out),J⟩
 case round=>
  obtain⟨j,hj,rfl,N,Q,f⟩:=hrel
  by_cases cy:j<m
  ·have ca:(j:Int)<(m:Int):=by omega
   obtain⟨g,co,z,he,_,_,hG⟩:=bO Q.out (by omega)
   injection he with he hnn hcc
   subst he hcc;clear hnn;have H2:=hid (H0.below f.out);obtain⟨x,hx⟩:∃x,E[j]?=some x:=⟨_,List.getElem?_eq_getElem (by have:=HM.out;omega)⟩;obtain⟨c,hc⟩:∃c,cs[j]?=some c:=⟨_,List.getElem?_eq_getElem (by have:=K.out;omega)⟩;obtain⟨k,T,U,R⟩:=an.out j x c hx hc;have a9:=hid T;have aA:=hid U;have a:=hid R;have ah:=hid hc;have a0:=hid (dZ hG hx);clear hG hx hc T U R
   go_wp2_with (first
    |((with_reducible refine ag 130 (.tmp 26) g (j*3) x.cells _ (some 27) a0.out underlying130 rfl aF ?hg ?ho ?hds ?hx ?_);(case ho|hg|hds|hx=>rfl))
    |((with_reducible refine ab 130 _ cd (some 9) ?hgd ?ho ?hd ?_);(case hgd|ho|hd=>rfl);(intro b9 w5 l5 B5 e5 z5))
    |((with_reducible refine aa 130 (.tmp 9) (.tmp 27) b9 (af.cells ⟨0,0,0⟩) x.cells 130 B5 rfl aF (bF _) ?hgd ?ho ?hx ?hy ?_);(case hgd|ho|hx|hy=>rfl);(intro w6 B6 o6;have y2:w6.cell? ⟨b9,2,none⟩=some (.int .i64 (k:Int)):=(by rw[←a9.out];exact B6.cell (i:=2) rfl)))
    |fail)
   have b:Below wr.heap.size wr w6:=o6.below (e5.mono l5) l5;have u:=hid (f.trans (b.mono f.size));have a3:=hid (N.below b);have a5:=hid (own_below b Q.out);have H6:=hid (H2.below b);clear B5 B6 e5 z5 o6 l5 b y2
   refine(aq.out _ k c H6.out aA.out a.out).mono ?_
   rintro e w7 ⟨rfl,p⟩
   dsimp only[gP.taken]
   have y:=hid (u.trans (p.mono u.size));have a4:=hid (a3.below p);have a6:=hid (own_below p a5.out);clear p
   go_wp2_with (first
    |((with_reducible refine ab 134 _ zeroCell (some 10) ?hgd ?ho ?hd ?_);(case hgd|ho|hd=>rfl);(intro bb w8 l8 B8 e8 z8))
    |((with_reducible refine aa 134 (.tmp 10) (.tmp 33) bb dL c.cells 134 B8 rfl bB (dj _) ?hgd ?ho ?hx ?hy ?_);(case hgd|ho|hx|hy=>rfl);(intro w9 Y o9;have y1:=Y.cell (i:=1) rfl;have y2:=Y.cell (i:=2) rfl;have y4:=Y.cell (i:=4) rfl))
    |fail)
   have r:Below w7.heap.size w7 w9:=o9.below (e8.mono l8) l8;have A:=hid (y.trans (r.mono y.size));have M:=hid (a4.below r);have P:=hid (own_below r a6.out);clear B8 Y e8 z8 o9 l8 r y1 y2 y4
   refine(qI I B j ep c.lba c.slot c.cipher (j7 ep (cs.take j)) _ M.out (by omega) l.out.1 l.out.2 a.ok.s0 a.ok.s1 a.ok.l0 (by have:=a.ok.l1;omega) a.ok.n).mono ?_
   rintro e c3 ⟨⟨rfl,D⟩,d⟩;have L:=hid D;have F:=hid (d.below A.out (by intro x hx;simp at hx;subst hx;exact HB.out) A.size)
   have O:=hid (aJ P.out d (fun q hq C=>by
    simp at C;subst C
    have:=M.map
    obtain⟨es,bd,bk,_⟩:=this;obtain⟨cv,fz,V⟩:=qF P.out hq;rw[bk]at V
    cases V))
   clear D d;go_wp2_with fail;go_roundw
   case rel=>exact⟨j+1,by omega,by go_num,hid (by rw[pH ah.out];exact L.out),O,F⟩
   case measure=>simp[intOf];omega
  ·obtain rfl:j=m:=by omega
   go_wp2_with fail;go_ret2;refine⟨⟨I,B,rfl, ?_⟩,f.out⟩
   have:=N.out
   rw[List.take_of_length_le (by rw[K.out];exact Nat.le_refl _)]at this;exact this
end Go.Proofs.YtadooplpfhdhcaaGreat
