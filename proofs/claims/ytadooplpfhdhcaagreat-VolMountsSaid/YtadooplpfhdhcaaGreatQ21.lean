/- A tree of at most one leaf (chapter 15): its levels, its root. A segment's count and root (chapters 16, 17): of at most one leaf. An index (chapter 14): an epoch's versions, where there is at most one. A volume's cells and an epoch's segment, of at most one version (chapter 26). -/
import Derived.Test.YtadooplpfhdhcaaGreatQ20
import Derived.Test.YtadooplpfhdhcaaGreatQ10
import Derived.Test.YtadooplpfhdhcaaGreatQ13
import Derived.RangeFuncFrom
import Derived.RangeFuncKeeps
import Derived.Deep.QuietTactic
import Derived.BigQuiet
import Derived.RangeFuncNested
import Derived.RangeFuncBound
import Derived.RangeFuncCalls
import Derived.RangeFuncLeaves
import Derived.Shelf.Abstract
import Derived.Shelf.RegionOpen
import Derived.OwnWalkIn
import Derived.TacticsInMore
import Derived.LoopNIn
import Derived.LoopIn
import Derived.Test.YtadooplpfhdhcaaGreatQ19
set_option linter.unusedSimpArgs false
set_option linter.unusedVariables false
set_option maxRecDepth 100000
set_option maxHeartbeats 4000000
namespace Go.Proofs.YtadooplpfhdhcaaGreat
open Go Go.RowKit
open Go.Lib (hid)
open Go.Proofs.Tryz
attribute [local go_sem] Go.Oper.semAt_some
theorem mW {P:Program} {m:Nat} {c:Code} {Q:Exit→Act→World→Prop} {a:Act} {w:World} (h:c.wpIn Fence.wide m P (Exit.noGoto Q) a w):(Code.scope c).wpIn Fence.wide m P Q a w:=
 wpIn_wide.2 (wp_scope_straight (wpIn_wide.1 h))
theorem rF (p:Option Addr) (n c:Nat) (w:World):
  Calls prog 266 #[.slice p n c] w fun e w'=>∃b,e= .returned (.func (.func 294) #[] #[.pointer (some ⟨b,0,none⟩)])∧ac w' b [.slice p n c] 45∧w.heap.size≤b∧Below w.heap.size w w':=by
 have j:∀(d:Fn) (first a:Array Value) (w:World),(Instr.makeFunc d first a).run prog w= .ok (.func d first a) w:=fun _ _ _ _=>rfl
 go_enter func266,ntmps266
 go_wp2_with (first
  |((with_reducible refine aO 45 (.tmp 0) (.slice p n c) rfl (some 1) ?hgd ?ho ?hd ?hx ?_);(case hgd|ho|hd|hx=>rfl);(intro h k f g i l))
  |fail)
 go_ret;exact⟨h,rfl,g,f,i.mono f⟩
def oL (p:Option Addr) (n c:Nat) (_:Unit):Array Value:=#[.slice p n c]
theorem Dx (m:Nat) (A:1≤m) (b u:Nat) (p:Option Addr) (n c:Nat) (hn:n≤1) (r:Nat) (J j:List Unit→World→Prop) (W:World) (hb:ac W b [.slice p n c] 45)
  (f:J [] W)
  (o:∀a x h,J a h→a.length<1→YieldAt Fence.wide (m-1) prog r (oL p n c x) h fun e d=>
   (e= .returned (.bool true)∧J (a++[x]) d∧Below u h d)∨(e= .returned (.bool false)∧j (a++[x]) d)):
  CallsIn Fence.wide m prog 294 #[.func (.yield r) #[] #[], .pointer (some ⟨b,0,none⟩)] W fun e d=>(∃v,e= .returned v)∧
   ((∃xs,(∃x,xs=[x])∧J xs d)∨(∃a,(∃x,a=[x])∧j a d)):=by
 have y:=hb.cell (i:=0) rfl;have t:¬¬(n:Int)<2:=by omega
 obtain⟨z,q,g,k,hy,l⟩:=o [] () W f (by simp)
 dsimp only[oL]at hy
 have s:=hid l;clear l o f;refine callsIn_of_wp func294 rfl trivial ?_ rfl;simp only[ntmps294,List.size_toArray,List.length_cons,List.length_nil,Nat.reduceAdd,Nat.reduceSub,Array.replicate_succ,Array.replicate_zero,List.push_toArray,List.append_toArray,List.nil_append,List.cons_append]
 gi_wp2_with fail
 refine mW ?_
 gi_wp2_with fail
 refine wpIn_label ?_
 gi_wp2_with fail
 refine wpIn_loop_once ?_
 gi_wp2_with fail
 refine s.mono ?_;rintro e w (⟨rfl,hJ3,hk3⟩|⟨rfl,hJx3⟩)
 ·gi_wp2_with fail
  rw[Exit.noGoto_normal];refine bodyPost_end (results_none rfl _ _ _) rfl ?_;exact⟨⟨_,rfl⟩, .inl ⟨_,⟨_,rfl⟩,hJ3⟩⟩
 ·gi_wp2_with fail
  rw[Exit.noGoto_normal];refine bodyPost_end (results_none rfl _ _ _) rfl ?_;exact⟨⟨_,rfl⟩, .inr ⟨_,⟨_,rfl⟩,hJx3⟩⟩
theorem zl (m:Nat) (j:1≤m) (b d:Nat) (p:Option Addr) (n c:Nat) (hn:n≤1) (w:World) (hb:ac w b [.slice p n c] 45):
  SeqStopsK Fence.wide m prog 294 #[.pointer (some ⟨b,0,none⟩)] (oL p n c) (Below d) (fun xs=>∃x,xs=[x]) (fun a=>∃x,a=[x]) 1 w:=by
 intro r J e W h k g i f;exact Dx m j b d p n c hn r J e W (hb.below h hb.lt) f i
def Jl:List ByteArray→List UInt8
 |[]=>eh []
 |x::_=>x.data.toList
def CS (s:ByteArray) (xs:List ByteArray) (k:Nat):ByteArray:=if k=0 then s else xs.headD s
theorem ac.iceless {w f:World} {b:Nat} {c:List Value} {t:TypeId} {a:Option Nat} (h:ac w b c t) (i:w.grownBy f a) (j:∀r,a=some r→∃o:Obj,w.heap[r]?=some o∧o.isCells=false):ac f b c t:=by
 refine h.grown i ?_;intro e;obtain⟨o,d,g⟩:=j b e.symm;unfold ac at h;rw[h]at d
 injection d with d
 subst d
 cases g
theorem tN (W:World):KeepsOthers W W:=KeepsOthers.of_grownBy (below_grown (Below.refl _ _)) (fun j o e=>by cases e)
theorem Dy (p:Option Addr) (n c:Nat) (xs:List ByteArray) (w:World) (h:w.ownsRow 0 9 1 (.slice p n c) n (xs.map .string)) (hl:xs.length=n) (F:∀x∈xs,x.size=32) (hn:n≤1):
  Calls prog 242 #[.slice p n c] w fun e w'=>(∃s,e= .returned (.tuple #[.string s, .int .i64 0])∧ah s (Jl xs))∧Below w.heap.size w w':=by
 have Q:=hid h;have E:=hid hl;have Z:=hid F;clear h hl F
 refine(callsIn_wide (n:=4)).1 ?_
 refine callsIn_of_wp_marks func242 rfl trivial ?_ rfl;simp only[ntmps242,List.size_toArray,List.length_cons,List.length_nil,Nat.reduceAdd,Nat.reduceSub,Array.replicate_succ,Array.replicate_zero,List.push_toArray,List.append_toArray,List.nil_append,List.cons_append]
 gi_wp2_with (first
  |(refine⟨trivial, ?_⟩;gi_at_call 265;refine(callsIn_wide.2 (tM p n c xs _ Q.out E.out Z.out (by omega))).mono ?_;rintro e w1 ⟨rfl,rfl⟩)
  |(refine⟨trivial, ?_⟩;gi_at_call 67;refine(callsIn_wide.2 (yJ none 0 _)).mono ?_;rintro e G ⟨l,rfl,C,v⟩;have L:=hid C;have d:=hid v;clear C v)
  |(refine⟨trivial, ?_⟩;gi_at_call 266;refine(callsIn_wide.2 (rF p n c _)).mono ?_;rintro e Y ⟨M,rfl,P,X,y⟩;have I:=hid P;have J:=hid X;have f:=hid y;clear P X y)
  |fail)
 obtain⟨b4,a⟩:∃b4,b4=G.heap.size:=⟨_,rfl⟩;rw[←a];have j:ac (G.alloc (Obj.cells #[.string l] 9)) b4 [.string l] 9:=by rw[a];exact ac.new G [.string l] 9
 have H:=hid (j.below f.out j.lt);have k:Below w.heap.size w (G.alloc (Obj.cells #[.string l] 9)):=d.trans (((Below.refl _ _).alloc (Nat.le_refl _) _).mono d.size);have o:=hid (k.trans (f.mono k.size));have q:w.heap.size≤b4:=by rw[a];exact d.size
 clear j k d f a J;have R:w.heap.size≤Y.heap.size:=o.size
 refine wpIn_rangeFunc_ownF rfl (by omega) (gf:=294) (lb:=#[.pointer (some ⟨M,0,none⟩)]) rfl trivial (enters_of func294 (by kernel_rfl) rfl)
  (zl (4-1) (by omega) M w.heap.size p n c hn Y I.out) belowK_t (belowK_b R) (Below.refl _ _) (fun _=>rfl)
  (fun b W=>ac W b4 [.string (CS l xs b.length)] 9∧Below w.heap.size w W)
  (fun V b W=>False)
  (OwnFrom.and (Own.from (fun s A B O F hg hr=>F.iceless hg hr) _) (ownFrom_below (Nat.le_refl _) R))
  (fun V s W W' O h=>h.elim)
  ⟨H.out,o.out⟩
  (fun x=>{tmps:=#[.slice p n c,undef, .string ⟨#[]⟩, .int .i64 0, .pointer (some ⟨b4,0,none⟩), .slice p n c, .slice p n c, .bool true, .bool false, .string l, .slice p n c, .func (.func 294) #[] #[.pointer (some ⟨M,0,none⟩)], .slice p n c,undef,undef,undef,undef,undef,undef,undef],defers:=[]}) ?assign ?body ?done ?stop
 case assign=>
  intro r x W K u
  dsimp only[oL]
  gi_wp2
  exact u
 case body=>
  rintro r b x W ⟨a,t⟩ T;obtain rfl:b=[]:=List.eq_nil_of_length_eq_zero (by omega);have z4:=a.cell (i:=0) rfl;have f4:=a.free 0
  rcases Nat.lt_or_ge 0 n with hp|hp
  ·obtain rfl:n=1:=by omega
   obtain⟨m,rfl⟩:∃m,xs=[m]:=by
    rcases xs with _|⟨m,_|⟨_,_⟩⟩
    ·have:=E.out;simp at this
    ·exact⟨m,rfl⟩
    ·have:=E.out;simp at this
   obtain⟨g,ad,z,N,_,_,S⟩:=ba Q.out (by omega)
   injection N with N _ _
   subst N;have cg:=(S.below t S.lt).cell (i:=0) rfl
   gi_wp2_with fail
   refine⟨KeepsOthers.setCell _ _ _,(Below.refl _ _).setCell (p:=⟨b4,0,none⟩) (by show w.heap.size≤b4;exact q) _, ?_,t.setCell (p:=⟨b4,0,none⟩) (by show w.heap.size≤b4;exact q) _⟩;exact a.set 0 (.string m)
  ·obtain rfl:n=0:=by omega
   obtain rfl:xs=[]:=List.eq_nil_of_length_eq_zero E.out
   gi_wp2_with fail
   exact⟨tN W,Below.refl _ _,a,t⟩
 case done=>
  rintro D ys W hD ⟨x,rfl⟩ ⟨a,t⟩ u;have z4:=a.cell (i:=0) rfl
  gi_wp2_with fail
  refine⟨by simp, .inl ⟨_,_,rfl,run_takeDeferred u, ?_⟩⟩;refine⟨.tuple #[.string (CS l xs 1), .int .i64 0], ?_,⟨_,rfl, ?_⟩,t.trans (belowK_b (w:=w) (Nat.le_refl _) W D _ _ (by omega) u rfl rfl)⟩
  ·simp[results,f242,go_sem]
  ·rcases xs with _|⟨m,xs⟩
   ·exact L.out
   ·rfl
 case stop=>
  rintro D V b W hD U h u;exact h.elim
open Go.Maps Go.WideMaps
theorem gp {w:World} {d n size:Nat} {e:TypeId} {v:Value} {xs:List Value} (h:w.ownsRow d e size v n xs):w.ownsRow 0 e size v n xs:=by
 rcases h with⟨h1,h2⟩
 refine⟨h1, ?_⟩
 rcases h2 with h2|⟨g,cap,cur,a,b,c⟩
 ·exact .inl h2
 ·exact .inr ⟨g,cap,cur,a,Nat.zero_le _,c⟩
def fL (f:Int→Option (List UInt8)):Prop:=∀k x,f k=some x→x.length=32
theorem fL.none:fL (fun _=>Option.none):=fun k x h=>by cases h
theorem fL.put {f:Int→Option (List UInt8)} (h:fL f) (k:Int) (x:List UInt8) (b:x.length=32):fL (fun j=>if j=k then some x else f j):=by
 intro j y hy
 by_cases a:j=k
 ·simp only[if_pos a]at hy;obtain rfl:=Option.some.inj hy;exact b
 ·simp only[if_neg a]at hy;exact h j y hy
theorem zm {f:Int→Option (List UInt8)} {k:Nat} {x:bK} (h:x∈bu f k):∃i:Nat,i<k∧∃y,f (i:Int)=some y∧x=⟨(i:Int),⟨y.toArray⟩⟩:=by
 unfold bu at h;obtain⟨i,b,a⟩:=List.mem_filterMap.1 h;refine⟨i,List.mem_range.1 b, ?_⟩
 cases hf:f (i:Int)with
 |none=>rw[hf]at a;cases a
 |some y=>rw[hf]at a;exact⟨y,rfl,(Option.some.inj a).symm⟩
theorem xI (f:Int→Option (List UInt8)) (k:Nat):(bu f k).Pairwise fun x y=>x.lba<y.lba:=by
 unfold bu;rw[List.pairwise_filterMap];refine List.Pairwise.imp ?_ List.pairwise_lt_range;intro i j b x a y hy
 cases hf:f (i:Int)with
 |none=>rw[hf]at a;cases a
 |some u=>
  cases hg:f (j:Int)with
  |none=>rw[hg]at hy;cases hy
  |some v=>
   rw[hf]at a;rw[hg]at hy;obtain rfl:=Option.some.inj a;obtain rfl:=Option.some.inj hy
   show(i:Int)<(j:Int)
   omega
theorem rG {f:Int→Option (List UInt8)} (h:fL f) (k:Nat) (d:k≤4096):mA (bu f k) where
 each j x hj:=by
  obtain⟨i,a,y,hy,rfl⟩:=zm (List.mem_of_getElem? hj);exact⟨by show(0:Int)≤(i:Int);omega,by show(i:Int)≤4095;omega,by show y.toArray.size=32;simpa using h _ _ hy⟩
 rise i j x y a hj hij:=by
  obtain⟨b,rfl⟩:=List.getElem?_eq_some_iff.1 a;obtain⟨c,rfl⟩:=List.getElem?_eq_some_iff.1 hj;exact List.pairwise_iff_getElem.1 (xI f k) i j b c hij
def Jm (l:List bK):List UInt8:=Jl (eu l)
theorem Dz (p:Option Addr) (n c:Nat) (l:List bK) (w:World) (h:gk w p n l) (v:mA l) (hn:n≤1):
  Calls prog 174 #[.slice p n c] w fun e w'=>(∃s,e= .returned (.tuple #[.string s, .int .i64 0])∧ah s (Jm l))∧Below w.heap.size w w':=by
 have m:=hid h;have g:=hid v;clear h v;go_enter func174,ntmps174;go_wp2_with fail
 refine(rE p n c l _ m.out g.out (by omega)).mono ?_
 rintro e C ⟨rfl,a⟩;have b:=hid a;have o:=hid (m.below a);clear a;go_wp2_with fail
 refine(pW p n c l _ o.out g.out (by omega)).mono ?_
 rintro e D ⟨⟨B,rfl,t⟩,i⟩;have f:=hid (b.trans (i.mono b.size));obtain⟨q,d,rfl⟩:=az t;have A:=hid (gp t);clear i t;go_wp2_with fail
 refine(Dy q n d (eu l) _ A.out (by unfold eu;rw[List.length_map];exact m.out.1) (fun x u=> ?_) hn).mono ?_
 ·unfold eu at u
  obtain⟨y,_,rfl⟩:=List.mem_map.1 u
  show(lG y).toArray.size=32
  simpa using j4 y
 rintro e E ⟨⟨s,rfl,z⟩,j⟩;have r:=hid z;have k:=hid (f.trans (j.mono f.size));clear j z;go_wp2_with fail;go_ret2;exact⟨⟨s,rfl,r.out⟩,k.out⟩
theorem ju (b B n:Nat) (ep:Int) (D:DataW Unit) (w:World) (h:dK w b B n ep D):
  Calls prog 82 #[.pointer (some ⟨b,0,none⟩)] w fun e w'=>e= .returned (.int .i64 (Maps.size D))∧w=w':=by
 have a:=hid h;clear h;go_enter func82,ntmps82;go_wp2_with fail
 refine(ip b B n _ _ _ a.out).mono ?_
 rintro e d ⟨rfl,rfl⟩;have c:=a.blk.cell (i:=1) rfl
 go_wp2_with (first
  |(at_len;refine wpList_len_own _ rfl _ 247 rfl 3 9 underlying247 _ B n D rfl a.map ?_)
  |fail)
 go_ret;exact⟨rfl,rfl⟩
theorem zn (i B n:Nat) (ep:Int) (D:DataW Unit) (f:Int→Option (List UInt8)) (w:World) (h:dK w i B n ep D) (o:ja D f) (p:fL f) (hn:(bu f 4096).length≤1):
  Calls prog 83 #[.pointer (some ⟨i,0,none⟩)] w fun e w'=>(∃s,e= .returned (.string s)∧ah s (Jm (bu f 4096)))∧Below w.heap.size w w':=by
 have m:=hid h;have u:=hid o;have v:=hid p;clear h o p;go_enter func83,ntmps83;go_wp2_with fail
 refine(ip i B n _ _ _ m.out).mono ?_
 rintro e y ⟨rfl,rfl⟩;go_wp2_with fail
 refine(nY i B n ep D f _ m.out u.out).mono ?_
 rintro e z ⟨⟨x,rfl,r⟩,b⟩;have a:=hid b;obtain⟨q,d,rfl,g⟩:=gk.own r rfl;have k:=hid g;clear b r g;go_wp2_with fail
 refine(Dz q _ d (bu f 4096) _ k.out (rG v.out 4096 (Nat.le_refl _)) hn).mono ?_
 rintro e A ⟨⟨s,rfl,t⟩,c⟩;have l:=hid t;have j:=hid (a.trans (c.mono a.size));clear c t;go_wp2_with fail;go_ret;exact⟨⟨s,rfl,l.out⟩,j.out⟩
def j5 (l:List ag) (ep:Int):List ag:=l.filter fun x=>decide (x.epoch=ep)
theorem CU {l:List ag} {ep:Int} {k:Nat} {x:ag} (d:l[k]?=some x) (c:x.epoch=ep):j5 (l.take (k+1)) ep=j5 (l.take k) ep++[x]:=by
 obtain⟨a,b⟩:=List.getElem?_eq_some_iff.1 d;unfold j5;rw[List.take_succ_eq_append_getElem a,List.filter_append,b];simp[c]
theorem KP {l:List ag} {ep:Int} {k:Nat} {x:ag} (d:l[k]?=some x) (c:¬x.epoch=ep):j5 (l.take (k+1)) ep=j5 (l.take k) ep:=by
 obtain⟨a,b⟩:=List.getElem?_eq_some_iff.1 d;unfold j5;rw[List.take_succ_eq_append_getElem a,List.filter_append,b];simp[c]
theorem Ix (l:List ag) (ep:Int) (k:Nat):(j5 (l.take k) ep).length≤(j5 l ep).length:=by
 unfold j5
 exact((List.take_sublist k l).filter _).length_le
theorem FI {l:List ag} {ep:Int} {k:Nat} {x:ag} (h:(j5 l ep).length≤1) (c:l[k]?=some x) (b:x.epoch=ep):j5 (l.take k) ep=[]:=by
 have a:=Ix l ep (k+1);rw[CU c b,List.length_append]at a;simp only[List.length_cons,List.length_nil]at a;exact List.eq_nil_of_length_eq_zero (by omega)
theorem FK {w:World} {f d n size:Nat} {e:TypeId} {v:Value} {xs:List Value} (h:w.ownsRow f e size v n xs) (hb:d≤f):w.ownsRow d e size v n xs:=by
 rcases h with⟨h1,h2⟩
 refine⟨h1, ?_⟩
 rcases h2 with h2|⟨g,cap,cur,a,b,c⟩
 ·exact .inl h2
 ·exact .inr ⟨g,cap,cur,a,Nat.le_trans hb b,c⟩
theorem j6:(prog.info? 130).map (fun i=>(i.zero,i.size,i.bytes))=some (some (.agg #[.int .i64 0, .int .i64 0, .int .i64 0]),3,24):=by kernel_rfl
theorem Bq (T n:Nat) (xv:Value) (l:List ag) (ep:Int) (w:World) (Z:ac w T [.bool true,xv] 238) (Y:w.ownsRow 0 130 3 xv n (ar l)) (hl:l.length=n) (hn:n≤4096) (X:(j5 l ep).length≤1):
  Calls prog 133 #[.pointer (some ⟨T,0,none⟩), .int .i64 ep] w fun e w'=>(∃J,e= .returned J∧w'.ownsRow w.heap.size 130 3 J (j5 l ep).length (ar (j5 l ep)))∧Below w.heap.size w w':=by
 obtain⟨i0,hi,Q,R,S⟩:=info_parts j6;have HX:=hid Z;have HR:=hid Y;have U:=hid hl;have V:=hid hn;have H1:=hid X;clear Z Y hl hn X;go_enter func133,ntmps133;go_wp2_with fail
 refine(pT T n xv l _ HX.out HR.out V.out).mono ?_
 rintro e K ⟨⟨va,rfl,P⟩,D⟩;obtain⟨pa,ca,rfl⟩:=az P;have HA:=hid P;have o:=hid D;clear P D;go_wp2_with fail;go_loopw [5,12] (fun J i wr=>∃k:Nat,k≤n∧i= .int .i64 k∧Hid (wr.ownsRow K.heap.size 130 3 J (j5 (l.take k) ep).length (ar (j5 (l.take k) ep)))∧Hid (Below K.heap.size K wr)) (fun _ i _=>n-(intOf i).toNat)
 case atStart=>exact⟨0,Nat.zero_le _,rfl,hid (World.ownsRow_nil _ _ _ _),hid (Below.refl _ _)⟩
 case round=>
  obtain⟨k,hk,rfl,M,a⟩:=hrel;have hn:=V.out
  by_cases be:k<n
  ·have ad:(k:Int)<(n:Int):=by omega
   obtain⟨g,a9,z,E,_,_,O⟩:=ba HA.out (by omega)
   injection E with E hnn hcc
   subst E hcc;clear hnn;have HG:=hid (O.below a.out O.lt);obtain⟨x,hx⟩:∃x,l[k]?=some x:=⟨_,List.getElem?_eq_getElem (by have:=U.out;omega)⟩;have h:=hid hx;have C:=hid (ed HG.out h.out);clear O hx
   by_cases f:x.epoch=ep
   ·have q:=FI H1.out h.out f
    have j:=M.out;rw[q]at j;simp only[List.length_nil]at j;have y:=hid j;clear j;obtain⟨po,co,rfl⟩:=az y.out;have N:=hid q;clear q
    go_upto_region 7 with(first
     |((with_reducible refine ao 130 (.tmp 14) g (k*3) x.cells _ (some 15) C.out underlying130 rfl aM ?hg ?ho ?hds ?hx ?_);(case ho|hg|hds|hx=>rfl))
     |((with_reducible refine ab 130 _ cE (some 7) ?hgd ?ho ?hd ?_);(case hgd|ho|hd=>rfl);(intro t w5 u G H z5))
     |((with_reducible refine aa 130 (.tmp 7) (.tmp 15) t (ag.cells ⟨0,0,0⟩) x.cells 130 G rfl aM (bV _) ?hgd ?ho ?hx ?hy ?_);(case hgd|ho|hx|hy=>rfl);(intro w6 s I;have y0:=s.cell (i:=0) rfl;have y1:w6.cell? ⟨t,1,none⟩=some (.int .i64 ep):=(by rw[←f];exact s.cell (i:=1) rfl)))
     |fail)
    have v:=hid s;have b:Below wr.heap.size wr w6:=I.below (H.mono u) u;have c:=hid (a.trans (b.mono a.size)).drew;have A:=hid (own_below b.drew y.out);clear G H z5 I u b y0 y1;go_region;have m:=hid v.drew;obtain⟨wd,r⟩:∃wd,wd=w6.drew:=⟨_,rfl⟩;rw[←r]at c A m;rw[←r];clear v s r
    go_wp2_with (first
     |((with_reducible refine aj 130 (.tmp 7) t x.cells 130 _ m.out underlying130 rfl aM ?hgd ?ho ?hx ?_);(case hgd|ho|hx=>rfl))
     |((with_reducible refine bi 209 130 1 ?parts x.cells (.agg #[.int .i64 0, .int .i64 0, .int .i64 0]) 3 24 (some 42) underlying209 j6 (by omega) (by omega) ?hgd ?ho ?hd ?hf ?_);(case hgd|ho|hd=>rfl);(case hf=>kernel_rfl);(intro g8 w8 l8 B8 W z8;have L:=hid B8;have d:=hid (c.out.trans (W.mono (Nat.le_trans c.out.size l8)));have B:=hid (own_below (W.mono l8) A.out)))
     |(at_builtin;refine wpList_append_own_wide _ rfl _ _ 209 rfl K.heap.size 130 i0 (.agg #[.int .i64 0, .int .i64 0, .int .i64 0]) 3 24 underlying209 hi Q R S rfl (by decide) _ 0 (ar []) rfl B.out ⟨g8,0,none⟩ 1 1 x.cells rfl rfl (bI L.out) (bV _) (by unfold maxLen;omega) (by omega) d.size ?_;intro v' w9 F p aA)
     |fail)
    go_roundw
    case rel=>
     refine⟨k+1,by omega,by go_num,hid ?_,hid (dH d.out B.out p (Nat.le_refl _) d.size)⟩
     ·rw[CU h.out f,N.out]
      show World.ownsRow _ _ _ _ _ 1 (ar [x])
      have E:ar [x]=ar []++x.cells:=by simp[ar]
      rw[E];exact F
    case measure=>simp[intOf];omega
   ·have an:(x.epoch==ep)=false:=beq_eq_false_iff_ne.2 f
    go_wp2_with (first
     |((with_reducible refine ao 130 (.tmp 14) g (k*3) x.cells _ (some 15) C.out underlying130 rfl aM ?hg ?ho ?hds ?hx ?_);(case ho|hg|hds|hx=>rfl))
     |((with_reducible refine ab 130 _ cE (some 7) ?hgd ?ho ?hd ?_);(case hgd|ho|hd=>rfl);(intro t w5 u G H z5))
     |((with_reducible refine aa 130 (.tmp 7) (.tmp 15) t (ag.cells ⟨0,0,0⟩) x.cells 130 G rfl aM (bV _) ?hgd ?ho ?hx ?hy ?_);(case hgd|ho|hx|hy=>rfl);(intro w6 s I;have y1:w6.cell? ⟨t,1,none⟩=some (.int .i64 x.epoch):=s.cell (i:=1) rfl))
     |fail)
    have b:Below wr.heap.size wr w6:=I.below (H.mono u) u;go_roundw
    case rel=>
     refine⟨k+1,by omega,by go_num,hid ?_,hid (a.trans (b.mono a.size))⟩;rw[KP h.out f];exact own_below b M.out
    case measure=>simp[intOf];omega
  ·obtain rfl:k=n:=by omega
   go_wp2_with fail;go_ret;refine⟨⟨_,rfl,FK ?_ o.size⟩,o.trans (a.mono o.size)⟩
   have:=M.out
   rw[List.take_of_length_le (by rw[U.out];exact Nat.le_refl _)]at this;exact this
theorem DC (i:ap) (v:ai) (c:ak) (w:World) (h:al w i v) (A:bp v) (x:0≤c.slot) (y:c.slot<v.used) (hc:bh c) (z:c.gone=false) (hb:ah (v.d.shown (4+c.slot)) (cellL c)):
  Calls prog 62 #[.pointer (some ⟨i.vb,0,none⟩), .int .i64 c.slot] w fun e w'=>e= .returned (.tuple #[.agg c.cells.toArray, .int .i64 0])∧Below w.heap.size w w':=by
 have s:=hid A;have u:=hid (show 0≤c.slot∧c.slot<v.used from⟨x,y⟩);have E:=hid hc;have F:=hid z;have D:=hid hb;have p:=hid h;clear A x y hc z hb h;have J:w.cell? ⟨i.vb,0,none⟩=some (.pointer (some ⟨i.jb,0,none⟩)):=p.vol.cell (i:=0) rfl;go_enter func62,ntmps62
 go_wp2_with (first
  |((with_reducible refine ab 134 _ zeroCell (some 4) ?hgd ?ho ?hd ?_);(case hgd|ho|hd=>rfl);(intro H L n t o M;have K:L.cell? ⟨i.vb,0,none⟩=some (.pointer (some ⟨i.jb,0,none⟩)):=((p.out.below (o.mono n)).vol.cell (i:=0) rfl)))
  |fail)
 have k:=hid t;have r:=hid n;have b:=hid (o.mono n);have C:=hid (p.below (o.mono n));clear t n o M K J
 refine(oC i v c.slot _ C.out s.out u.out.1 u.out.2).mono ?_
 rintro e N ⟨rfl,g⟩;have l:=hid (k.below g k.lt);have f:=hid (b.trans (g.mono b.size));clear g;obtain⟨blk,a⟩:∃blk,v.d.shown (4+c.slot)=blk:=⟨_,rfl⟩;rw[a];have G:=hid (show ah blk (cellL c)from by rw[←a];exact D.out);clear a;go_wp2_with fail
 refine(nT c blk _ G.out E.out F.out).mono ?_
 rintro e O ⟨rfl,j⟩;have q:=hid (l.below j l.lt);have m:=hid (f.trans (j.mono f.size));clear j
 go_wp2_with (first
  |((with_reducible refine aa 134 (.tmp 4) (.tmp 23) H cC c.cells 134 q.out rfl aX (bZ _) ?hgd ?ho ?hx ?hy ?_);(case hgd|ho|hx|hy=>rfl);(intro P B I))
  |fail)
 (try simp only[Exit.inBlock,Exit.then]);refine bodyPost_ret (aU rfl _ _ B.range rfl underlying134 rfl aX) rfl ⟨rfl,I.below m.out r.out⟩
def sC (ep:Int) (c:ak) (k:Nat):DataW Unit:=if k=0 then .map []else(DataW.map []).put (.int .i64 c.lba) (.lit (.string (eV ep c.slot c.cipher.data.toList)))
theorem u6 (i:ap) (v:ai) (ep:Int) (x:ag) (c:ak) (w:World) (h:al w i v) (Q:bp v) (e0:0≤ep) (e1:ep≤4294967295) (hE:j5 v.vers ep=[x]) (hx:x.slot=c.slot) (N:v.vers.length≤4096)
  (h0:0≤c.slot) (h1:c.slot<v.used) (hc:bh c) (hg:c.gone=false) (K:0≤c.lba) (L:c.lba<4096) (hb:ah (v.d.shown (4+c.slot)) (cellL c)):
  Calls prog 59 #[.pointer (some ⟨i.vb,0,none⟩), .int .i64 ep] w fun e w'=>(∃F B,e= .returned (.tuple #[.pointer (some ⟨F,0,none⟩), .int .i64 0])∧dK w' F B 1 ep (sC ep c 1))∧Below w.heap.size w w':=by
 have S:=hid (fun(wx:World) (hh:al wx i v)=>DC i v c wx hh Q h0 h1 hc hg hb);have HE:=hid hE;have Z:=hid hx;have Y:=hid N;have b:=hid (show 0≤ep∧ep≤4294967295 from⟨e0,e1⟩);have I:=hid (show 0≤c.slot∧c.slot≤4294967295 from⟨h0,by have:=Q.u1;have:=Q.sup.geo.b1;omega⟩);have G:=hid (show 0≤c.lba∧c.lba<4096 from⟨K,L⟩);have R:=hid hc.n;have H0:=hid h;clear Q h0 h1 hc hg hb h hE hx N e0 e1 K L;go_enter func59,ntmps59;go_wp2_with fail
 refine(nC ep _ b.out.1 b.out.2).mono ?_
 rintro e w1 ⟨⟨F,B,rfl,M,hB,aA⟩,A⟩;have U:=hid M;have HB:=hid hB;have m:=hid A;have P:=hid (H0.below A);have v3:w1.cell? ⟨i.vb,3,none⟩=some (.pointer (some ⟨i.xb,0,none⟩)):=P.vol.cell (i:=3) rfl;clear M hB aA A;go_wp2_with fail
 refine(Bq i.xb _ i.xv v.vers ep _ P.index P.vers rfl Y.out (by rw[HE.out];exact Nat.le_refl _)).mono ?_
 rintro e w2 ⟨⟨ve,rfl,E⟩,f⟩;rw[HE.out]at E;have t:w2.ownsRow w1.heap.size 130 3 ve 1 (ar [x]):=E;obtain⟨g,b5,z,rfl,J,aq,hG⟩:=ba t (by omega);have HG:=hid hG;have o:=hid (m.trans (f.mono m.size));have V:=hid (U.below f);have H2:=hid (P.below f);clear v3 E t f hG J aq;go_wp2_with fail;go_loopw [24] (fun k wr=>(k= .int .i64 0∧wr=w2)∨(k= .int .i64 1∧Hid (dK wr F B 1 ep (sC ep c 1))∧Hid (Below w.heap.size w wr))) (fun k _=>1-(intOf k).toNat)
 case atStart=>exact .inl ⟨rfl,rfl⟩
 case round=>
  rcases hrel with⟨rfl,rfl⟩|⟨rfl,y,a⟩
  ·have T:=hid (show wr.rangeAt g (0*3) x.cells from ed (l:=[x]) HG.out rfl)
   go_wp2_with (first
    |((with_reducible refine ao 130 (.tmp 26) g 0 x.cells _ (some 27) T.out underlying130 rfl aM ?hg ?ho ?hds ?hx ?_);(case ho|hg|hds|hx=>rfl))
    |((with_reducible refine ab 130 _ cE (some 9) ?hgd ?ho ?hd ?_);(case hgd|ho|hd=>rfl);(intro b9 w5 l5 B5 e5 z5))
    |((with_reducible refine aa 130 (.tmp 9) (.tmp 27) b9 (ag.cells ⟨0,0,0⟩) x.cells 130 B5 rfl aM (bV _) ?hgd ?ho ?hx ?hy ?_);(case hgd|ho|hx|hy=>rfl);(intro w6 B6 o6;have y2:w6.cell? ⟨b9,2,none⟩=some (.int .i64 c.slot):=(by rw[←Z.out];exact B6.cell (i:=2) rfl)))
    |fail)
   have j:Below wr.heap.size wr w6:=o6.below (e5.mono l5) l5;have p:=hid (o.trans (j.mono o.size));have W:=hid (V.below j);have H6:=hid (H2.below j);clear B5 B6 e5 z5 o6 l5 j y2
   refine(S.out _ H6.out).mono ?_
   rintro e w7 ⟨rfl,C⟩;have q:=hid (p.trans (C.mono p.size));have X:=hid (W.below C);clear C
   go_wp2_with (first
    |((with_reducible refine ab 134 _ zeroCell (some 10) ?hgd ?ho ?hd ?_);(case hgd|ho|hd=>rfl);(intro ad w8 l8 B8 e8 z8))
    |((with_reducible refine aa 134 (.tmp 10) (.tmp 33) ad cC c.cells 134 B8 rfl aX (bZ _) ?hgd ?ho ?hx ?hy ?_);(case hgd|ho|hx|hy=>rfl);(intro w9 O o9;have y1:=O.cell (i:=1) rfl;have y2:=O.cell (i:=2) rfl;have y4:=O.cell (i:=4) rfl))
    |fail)
   have D:Below w7.heap.size w7 w9:=o9.below (e8.mono l8) l8;have a:=hid (q.trans (D.mono q.size));have y:=hid (X.below D);clear B8 O e8 z8 o9 l8 D y1 y2 y4
   refine(Bj F B 0 ep c.lba c.slot c.cipher _ w _ y.out a.out HB.out (by omega) b.out.1 b.out.2 I.out.1 I.out.2 G.out.1 G.out.2 R.out).mono ?_
   rintro e ca ⟨⟨rfl,s⟩,r⟩;have H:=hid s;have u:=hid r;clear s r;go_wp2_with fail;go_roundw
   case rel=>exact .inr ⟨by go_num,H,u⟩
   case measure=>simp[intOf]
  ·go_wp2_with fail
   go_ret2;exact⟨⟨F,B,rfl,y.out⟩,a.out⟩
theorem xJ (n:Int) (key:ByteArray) (w:World) (f:key.size=32):
  Calls prog 84 #[.pointer none, .int .i64 n, .string key] w fun e w'=>(∃s,e= .returned (.string s)∧ah s (iJ key.data.toList [110,101,120,116] []))∧Below w.heap.size w w':=by
 have h:=hid f;clear f;go_enter func84,ntmps84;go_wp2_with fail
 refine(Ap key _).mono ?_
 rintro e i ⟨d,a⟩;obtain⟨s,rfl,g⟩:=d.yes h.out;have c:=hid g;have b:=hid a;clear g a d;go_wp2_with fail;go_ret;exact⟨⟨s,rfl,c.out⟩,b.out⟩
theorem pX (key g:ByteArray) (a:Int) (r:Rec) (w:World) (y:key.size=32) (m:iY g a r) (f:r.root.size≤1048576) (d:r.name.size≤1048576) (x:Fits r.epoch) (z:Fits a):
  Calls prog 170 #[.pointer none, .string key, .string g, .int .i64 a,r.v] w fun e w'=>(∃s,e= .returned (.string s)∧ah s (jj key.data.toList g.data.toList a r))∧Below w.heap.size w w':=by
 have D:=hid (show key.size=32∧iY g a r from⟨y,m⟩);have n:=hid (show(r.root.size≤1048576∧r.name.size≤1048576)∧Fits r.epoch∧Fits a from⟨⟨f,d⟩,x,z⟩);clear y m f d x z;go_enter func170,ntmps170
 go_upto_region 1 with(first
  |((with_reducible refine ae 59 (.tmp 4) r.cells (some 9) ?hgd ?ho ?hd ?hx ?_);(case hgd|ho|hd|hx=>rfl);(intro b w0 A q t E))
  |fail)
 have j:=hid q;have h:=hid (t.mono A);clear q t A E;go_region;have k:=hid j.drew;have c:=hid h.drew;obtain⟨C,i⟩:∃C,C=w0.drew:=⟨_,rfl⟩;rw[←i]at k c;rw[←i];clear i j h
 go_wp2_with (first
  |((with_reducible refine aj 59 (.tmp 9) b r.cells 59 _ k.out underlying59 rfl aV ?hgd ?ho ?hx ?_);(case hgd|ho|hx=>rfl))
  |fail)
 refine(E9 key g a r _ n.out.1.1 n.out.1.2 n.out.2.1 n.out.2.2).mono ?_
 rintro e F ⟨u,l⟩;obtain⟨s,rfl,B⟩:=u.yes D.out;have p:=hid B;have o:=hid (c.trans (l.mono c.size));clear B l u;go_wp2_with fail;go_ret;exact⟨⟨s,rfl,p.out⟩,o.out⟩
end Go.Proofs.YtadooplpfhdhcaaGreat
