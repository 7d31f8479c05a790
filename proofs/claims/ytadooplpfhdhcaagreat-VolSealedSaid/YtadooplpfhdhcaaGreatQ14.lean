/- A journal's steps, at a disk that has power: one write; two writes and a flush; a flush (chapter 25). A space's blocks, given out (chapter 13); how many there are (chapter 9). A journal within a volume (chapter 25): ready, Used, Room, Read, Append. -/
import Derived.Test.YtadooplpfhdhcaaGreatQ8
import Derived.Test.YtadooplpfhdhcaaGreatQ13
import Derived.Deep.RegionHeld3
import Derived.Test.YtadooplpfhdhcaaGreatQ7
import Derived.Test.YtadooplpfhdhcaaGreatQ12
import Derived.Test.YtadooplpfhdhcaaGreatQ4
import Derived.OrdersHeld
import Derived.Lib.SliceRun
import Derived.Deep.DeepAppendWide
import Derived.Test.YtadooplpfhdhcaaGreatQ10
import Derived.Test.YtadooplpfhdhcaaGreatQ2
set_option linter.unusedSimpArgs false
set_option linter.unusedVariables false
set_option maxRecDepth 100000
set_option maxHeartbeats 4000000
namespace Go.Proofs.YtadooplpfhdhcaaGreat
open Go Go.RowKit
open Go.Lib (hid)
open Go.Proofs.Tryz
theorem qy (q A g c N m:Nat) (f j l:Nat) (C:Int) (B:ByteArray) (t:TypeId) (d:ao) (w:World) (h:aH w A d) (o:ac w g [.func (.func 187) #[] #[.pointer (some ⟨f,0,none⟩), .pointer (some ⟨j,0,none⟩), .pointer (some ⟨l,0,none⟩)]] t) (Y:w.cell? ⟨q,1,none⟩=some (.pointer (some ⟨A,0,none⟩))) (L:q<w.heap.size) (p:fS w q f j l C B)
  (hn:∀x,x=g∨x=q∨x=f∨x=j∨x=l→x∉d.foot A)
  (J:Calm d N m) (Z:m+1≤4096) (X:N≤1024) (K:0≤C∧C<(N:Int)) (M:B.size=4096):
  Calls prog 96 #[.pointer (some ⟨q,0,none⟩), .slice (some ⟨g,0,none⟩) 1 c] w fun e w'=>e= .returned (.int .i64 0)∧∃d',(∃cv,d'={d with cv:=cv,cs:=d.cs++[(C,B)]})∧bf w w' A d d':=by
 have HH:=hid h;have HR:=hid o;have HJ:=hid Y;have F:=hid p;have b:=hid K;have U:=hid M;have E:=hid hn;have D:=hid J;have S:=hid (And.intro Z X);have Q:=hid L;clear h o Y hn J Z X L p K M;go_enter func96,ntmps96;go_wp2_with fail;go_loopw [10] (fun v wr=>∃(k:Nat) (d':ao),k≤1∧v= .int .i64 k∧((k=0→d'=d)∧(k=1→(∃cv,d'={d with cv:=cv,cs:=d.cs++[(C,B)]})))∧Calm d' N (m+1)∧(k=0→Calm d' N m)∧(k=1→Calm d' N (m+1))∧bf w wr A d d') (fun v _=>1-(intOf v).toNat)
 case atStart=>exact⟨0,d,by omega,rfl,⟨fun _=>rfl,fun h=>(by cases h)⟩,D.mono (by omega),fun _=>D.out,fun h=>(by cases h),bf.refl HH.out⟩
 case round=>
  obtain⟨k,d',W,rfl,a,I,G,H,P⟩:=hrel;have n:=hid P;have u:=hid a;have s:=hid I;have r:=hid G;have ad:=hid H;clear P a I G H;have T:=hid (n.turned.blk HR.out (E.out g (by simp)));have R:=hid (show wr.cell? ⟨q,1,none⟩=some (.pointer (some ⟨A,0,none⟩)) by rw[n.turned.cell Q.out (E.out q (by simp))];exact HJ.out);have y:=hid (F.turned n.turned (E.out f (by simp)) (E.out j (by simp)) (E.out l (by simp)))
  match k,W with
  |0,W=>
   have ck:=T.cell (i:=0) rfl;go_wp2_with fail;obtain rfl:d'=d:=u.out.1 (by trivial)
   refine(gG q A f j l _ C B _ n.at' R.out y.out s.up s.left (by have:=(r.out (by trivial)).few;have:=S.out.1;omega) b.out.1 (by rw[s.len];exact b.out.2) U.out).mono ?_
   rintro e w2 ⟨rfl,z,O⟩;have V:=hid O;clear O;go_wp2_with fail;go_roundw
   case rel=>exact⟨1,_,by omega,rfl,⟨fun h=>(by cases h),fun _=>⟨z,rfl⟩⟩,((r.out (by trivial)).put b.out.1 b.out.2 z B).mono (by omega),fun h=>(by cases h),fun _=>((r.out (by trivial)).put b.out.1 b.out.2 z B),n.trans V.out⟩
   case measure=>simp[intOf]
  |1,W=>
   go_wp2_with fail;go_ret
   first
    |exact⟨rfl,d',u.out.2 (by trivial),n.out⟩
    |(have he:=u.out.2 (by trivial);subst he;first|exact⟨rfl,n.out⟩|exact⟨rfl,by have O:=n.out;simp only[List.append_assoc,List.cons_append,List.nil_append]at O;exact O⟩)
theorem vB (C B g c N m:Nat) (r u z:Nat) (J:Int) (E:ByteArray) (s y A:Nat) (R:Int) (K:ByteArray) (t:TypeId) (d:ao) (w:World) (h:aH w B d) (G:ac w g [.func (.func 187) #[] #[.pointer (some ⟨r,0,none⟩), .pointer (some ⟨u,0,none⟩), .pointer (some ⟨z,0,none⟩)], .func (.func 187) #[] #[.pointer (some ⟨s,0,none⟩), .pointer (some ⟨y,0,none⟩), .pointer (some ⟨A,0,none⟩)], .func (.func 100) #[.pointer (some ⟨B,0,none⟩)] #[]] t) (hj:w.cell? ⟨C,1,none⟩=some (.pointer (some ⟨B,0,none⟩))) (an:C<w.heap.size) (H:fS w C r u z J E) (I:fS w C s y A R K)
  (hn:∀x,x=g∨x=C∨x=r∨x=u∨x=z∨x=s∨x=y∨x=A→x∉d.foot B)
  (Z:Calm d N m) (hm:m+2≤4096) (hN:N≤1024) (ad:0≤J∧J<(N:Int)) (aA:E.size=4096) (ah:0≤R∧R<(N:Int)) (a0:K.size=4096):
  Calls prog 96 #[.pointer (some ⟨C,0,none⟩), .slice (some ⟨g,0,none⟩) 3 c] w fun e w'=>e= .returned (.int .i64 0)∧∃d',d'=({d with cs:=d.cs++[(J,E)]++[(R,K)]}:ao).flushed∧bf w w' B d d':=by
 have HH:=hid h;have HR:=hid G;have HJ:=hid hj;have U:=hid H;have j:=hid ad;have a3:=hid aA;have V:=hid I;have l:=hid ah;have a4:=hid a0;have F:=hid hn;have S:=hid Z;have D:=hid (And.intro hm hN);have a2:=hid an;clear h G hj hn Z hm hN an H ad aA I ah a0;go_enter func96,ntmps96;go_wp2_with fail;go_loopw [10] (fun v wr=>∃(k:Nat) (d':ao),k≤3∧v= .int .i64 k∧((k=0→d'=d)∧(k=1→(∃cv,d'={d with cv:=cv,cs:=d.cs++[(J,E)]}))∧(k=2→(∃cv,d'={d with cv:=cv,cs:=d.cs++[(J,E)]++[(R,K)]}))∧(k=3→d'=({d with cs:=d.cs++[(J,E)]++[(R,K)]}:ao).flushed))∧Calm d' N (m+2)∧(k=0→Calm d' N m)∧(k=1→Calm d' N (m+1))∧(k=2→Calm d' N (m+2))∧bf w wr B d d') (fun v _=>3-(intOf v).toNat)
 case atStart=>exact⟨0,d,by omega,rfl,⟨fun _=>rfl,fun h=>(by cases h),fun h=>(by cases h),fun h=>(by cases h)⟩,S.mono (by omega),fun _=>S.out,fun h=>(by cases h),fun h=>(by cases h),bf.refl HH.out⟩
 case round=>
  obtain⟨k,d',hk,rfl,f,Y,W,X,hc2,a1⟩:=hrel;have n:=hid a1;have o:=hid f;have a:=hid Y;have L:=hid W;have M:=hid X;have bd:=hid hc2;clear a1 f Y W X hc2;have O:=hid (n.turned.blk HR.out (F.out g (by simp)));have T:=hid (show wr.cell? ⟨C,1,none⟩=some (.pointer (some ⟨B,0,none⟩)) by rw[n.turned.cell a2.out (F.out C (by simp))];exact HJ.out);have P:=hid (U.turned n.turned (F.out r (by simp)) (F.out u (by simp)) (F.out z (by simp)));have Q:=hid (V.turned n.turned (F.out s (by simp)) (F.out y (by simp)) (F.out A (by simp)))
  match k,hk with
  |0,hk=>
   have ck:=O.cell (i:=0) rfl;go_wp2_with fail;obtain rfl:d'=d:=o.out.1 (by trivial)
   refine(gG C B r u z _ J E _ n.at' T.out P.out a.up a.left (by have:=(L.out (by trivial)).few;have:=D.out.1;omega) j.out.1 (by rw[a.len];exact j.out.2) a3.out).mono ?_
   rintro e w2 ⟨rfl,b,q⟩;have p:=hid q;clear q;go_wp2_with fail;go_roundw
   case rel=>exact⟨1,_,by omega,rfl,⟨fun h=>(by cases h),fun _=>⟨b,rfl⟩,fun h=>(by cases h),fun h=>(by cases h)⟩,((L.out (by trivial)).put j.out.1 j.out.2 b E).mono (by omega),fun h=>(by cases h),fun _=>((L.out (by trivial)).put j.out.1 j.out.2 b E),fun h=>(by cases h),n.trans p.out⟩
   case measure=>simp[intOf]
  |1,hk=>
   have ck:=O.cell (i:=1) rfl;go_wp2_with fail;obtain⟨a5,rfl⟩:=o.out.2.1 (by trivial)
   refine(gG C B s y A _ R K _ n.at' T.out Q.out a.up a.left (by have:=(M.out (by trivial)).few;have:=D.out.1;omega) l.out.1 (by rw[a.len];exact l.out.2) a4.out).mono ?_
   rintro e w2 ⟨rfl,b,q⟩;have p:=hid q;clear q;go_wp2_with fail;go_roundw
   case rel=>exact⟨2,_,by omega,rfl,⟨fun h=>(by cases h),fun h=>(by cases h),fun _=>⟨b,rfl⟩,fun h=>(by cases h)⟩,((M.out (by trivial)).put l.out.1 l.out.2 b K).mono (by omega),fun h=>(by cases h),fun h=>(by cases h),fun _=>((M.out (by trivial)).put l.out.1 l.out.2 b K),n.trans p.out⟩
   case measure=>simp[intOf]
  |2,hk=>
   have ck:=O.cell (i:=2) rfl;go_wp2_with fail;obtain⟨a5,rfl⟩:=o.out.2.2.1 (by trivial)
   refine(iD B _ _ n.at' a.up a.left (by have:=a.few;have:=D.out.1;omega) (by have:=a.len;have:=D.out.2;omega) a.hin).mono ?_
   rintro e w2 ⟨rfl,q⟩;have p:=hid q;clear q;go_wp2_with fail;go_roundw
   case rel=>exact⟨3,_,by omega,rfl,⟨fun h=>(by cases h),fun h=>(by cases h),fun h=>(by cases h),fun _=>rfl⟩,a.flushed.mono (Nat.zero_le _),fun h=>(by cases h),fun h=>(by cases h),fun h=>(by cases h),n.trans p.out⟩
   case measure=>simp[intOf]
  |3,hk=>
   go_wp2_with fail;go_ret
   first
    |exact⟨rfl,d',o.out.2.2.2 (by trivial),n.out⟩
    |(have he:=o.out.2.2.2 (by trivial);subst he;first|exact⟨rfl,n.out⟩|exact⟨rfl,by have q:=n.out;simp only[List.append_assoc,List.cons_append,List.nil_append]at q;exact q⟩)
theorem yz (y q g c N m:Nat) (j l n:Nat) (F:Int) (z:ByteArray) (t:TypeId) (d:ao) (w:World) (h:aH w q d) (r:ac w g [.func (.func 187) #[] #[.pointer (some ⟨j,0,none⟩), .pointer (some ⟨l,0,none⟩), .pointer (some ⟨n,0,none⟩)], .func (.func 100) #[.pointer (some ⟨q,0,none⟩)] #[]] t) (Y:w.cell? ⟨y,1,none⟩=some (.pointer (some ⟨q,0,none⟩))) (Q:y<w.heap.size) (s:fS w y j l n F z)
  (hn:∀x,x=g∨x=y∨x=j∨x=l∨x=n→x∉d.foot q)
  (O:Calm d N m) (Z:m+1≤4096) (X:N≤1024) (P:0≤F∧F<(N:Int)) (R:z.size=4096):
  Calls prog 96 #[.pointer (some ⟨y,0,none⟩), .slice (some ⟨g,0,none⟩) 2 c] w fun e w'=>e= .returned (.int .i64 0)∧∃d',d'=({d with cs:=d.cs++[(F,z)]}:ao).flushed∧bf w w' q d d':=by
 have HH:=hid h;have HR:=hid r;have HJ:=hid Y;have J:=hid s;have f:=hid P;have W:=hid R;have H:=hid hn;have G:=hid O;have B:=hid (And.intro Z X);have U:=hid Q;clear h r Y hn O Z X Q s P R;go_enter func96,ntmps96;go_wp2_with fail;go_loopw [10] (fun v wr=>∃(k:Nat) (d':ao),k≤2∧v= .int .i64 k∧((k=0→d'=d)∧(k=1→(∃cv,d'={d with cv:=cv,cs:=d.cs++[(F,z)]}))∧(k=2→d'=({d with cs:=d.cs++[(F,z)]}:ao).flushed))∧Calm d' N (m+1)∧(k=0→Calm d' N m)∧(k=1→Calm d' N (m+1))∧bf w wr q d d') (fun v _=>2-(intOf v).toNat)
 case atStart=>exact⟨0,d,by omega,rfl,⟨fun _=>rfl,fun h=>(by cases h),fun h=>(by cases h)⟩,G.mono (by omega),fun _=>G.out,fun h=>(by cases h),bf.refl HH.out⟩
 case round=>
  obtain⟨k,d',T,rfl,b,M,K,L,S⟩:=hrel;have o:=hid S;have p:=hid b;have a:=hid M;have A:=hid K;have ad:=hid L;clear S b M K L;have I:=hid (o.turned.blk HR.out (H.out g (by simp)));have V:=hid (show wr.cell? ⟨y,1,none⟩=some (.pointer (some ⟨q,0,none⟩)) by rw[o.turned.cell U.out (H.out y (by simp))];exact HJ.out);have C:=hid (J.turned o.turned (H.out j (by simp)) (H.out l (by simp)) (H.out n (by simp)))
  match k,T with
  |0,T=>
   have ck:=I.cell (i:=0) rfl;go_wp2_with fail;obtain rfl:d'=d:=p.out.1 (by trivial)
   refine(gG y q j l n _ F z _ o.at' V.out C.out a.up a.left (by have:=(A.out (by trivial)).few;have:=B.out.1;omega) f.out.1 (by rw[a.len];exact f.out.2) W.out).mono ?_
   rintro e w2 ⟨rfl,E,u⟩;have D:=hid u;clear u;go_wp2_with fail;go_roundw
   case rel=>exact⟨1,_,by omega,rfl,⟨fun h=>(by cases h),fun _=>⟨E,rfl⟩,fun h=>(by cases h)⟩,((A.out (by trivial)).put f.out.1 f.out.2 E z).mono (by omega),fun h=>(by cases h),fun _=>((A.out (by trivial)).put f.out.1 f.out.2 E z),o.trans D.out⟩
   case measure=>simp[intOf]
  |1,T=>
   have ck:=I.cell (i:=1) rfl;go_wp2_with fail;obtain⟨a0,rfl⟩:=p.out.2.1 (by trivial)
   refine(iD q _ _ o.at' a.up a.left (by have:=a.few;have:=B.out.1;omega) (by have:=a.len;have:=B.out.2;omega) a.hin).mono ?_
   rintro e w2 ⟨rfl,u⟩;have D:=hid u;clear u;go_wp2_with fail;go_roundw
   case rel=>exact⟨2,_,by omega,rfl,⟨fun h=>(by cases h),fun h=>(by cases h),fun _=>rfl⟩,a.flushed.mono (Nat.zero_le _),fun h=>(by cases h),fun h=>(by cases h),o.trans D.out⟩
   case measure=>simp[intOf]
  |2,T=>
   go_wp2_with fail;go_ret
   first
    |exact⟨rfl,d',p.out.2.2 (by trivial),o.out⟩
    |(have he:=p.out.2.2 (by trivial);subst he;first|exact⟨rfl,o.out⟩|exact⟨rfl,by have u:=o.out;simp only[List.append_assoc,List.cons_append,List.nil_append]at u;exact u⟩)
def cj (g:aI) (used:Int):Int:=max (g.blocks-5-used) 0
theorem yA (g:aI) (used:Int) (w:World) (c:cD g) (x:0≤used) (u:used≤g.blocks-4):
  Calls prog 229 #[g.v, .int .i64 used] w fun e w'=>e= .returned (.int .i64 (cj g used))∧Below w.heap.size w w':=by
 have j:=c.b1;have i:=c.b0;have hu:used≤1024:=by omega
 have hn:¬used<0:=by omega
 have o:min used 1024=used:=by omega
 obtain⟨r,k⟩:∃r,cj g used=r:=⟨_,rfl⟩;have s:=hid k;have q:=hid c;rw[k];clear k c;go_enter func229,ntmps229
 go_wp2_with (first
  |((with_reducible refine ae 23 (.tmp 0) g.cells (some 2) ?hgd ?ho ?hd ?hx ?_);(case hgd|ho|hd|hx=>rfl);(intro t y l m n p))
  |((with_reducible refine al 23 (.tmp 2) t g.cells 23 _ m underlying23 rfl bM ?hgd ?ho ?hx ?_);(case hgd|ho|hx=>rfl))
  |fail)
 refine(iw g _ q.out).mono ?_
 rintro e z ⟨rfl,b⟩;have d:=hid ((n.mono l).trans (b.mono (Nat.le_trans l (Nat.le_of_lt p))));clear b m n l p;obtain⟨bl,a⟩:∃bl,g.blocks=bl:=⟨_,rfl⟩;have f:=hid a;rw[a]at j i u ⊢;clear a;go_wp2_with fail;go_ret;refine⟨?_,d.out⟩;have h:=s.out;unfold cj at h;rw[f.out]at h
 show Ending.returned (.int .i64 (max (bl-4-1-used) 0))= .returned (.int .i64 r)
 rw[←h,show bl-4-1-used=bl-5-used by omega]
theorem lk {w:World} {c:Nat} {g:aI} {b:Int} {t:TypeId} (h:ac w c (bS g b) t):w.rangeAt c 0 g.cells:=by
 intro j v a;rw[Nat.zero_add]
 match j,a with
 |0,a=>simp[aI.cells]at a;subst a;exact h.cell (i:=0) rfl
 |1,a=>simp[aI.cells]at a;subst a;exact h.cell (i:=1) rfl
 |2,a=>simp[aI.cells]at a;subst a;exact h.cell (i:=2) rfl
 |j+3,a=>simp[aI.cells]at a
theorem ot (f:Nat) (g:aI) (a:Int) (w:World) (h:ac w f (bS g a) 242) (m:cD g) (o:0≤a) (p:a≤g.blocks-4):
  Calls prog 152 #[.pointer (some ⟨f,0,none⟩)] w fun e w'=>e= .returned (.int .i64 (cj g a))∧Below w.heap.size w w':=by
 go_enter func152,ntmps152;go_wp2_with fail
 refine(fR f g a _ h m).mono ?_
 rintro e w' ⟨rfl,rfl⟩;go_wp2_with fail;refine wp_region_held_drew (S:=fun n=>n.rangeAt f 0 g.cells∧n.cell? ⟨f,3,none⟩=some (.int .i64 a)) (by kernel_rfl) (⟨lk h.drew,h.drew.cell (i:=3) rfl⟩) (fun b=> ?_);refine hp 0 ?_;refine hp 1 ?_;refine hp 2 ?_;refine wpAnyH_take (i:=3) (v:= .agg (g.cells).toArray) rfl (by kernel_rfl) (by kernel_rfl) (by kernel_rfl) (fun _ _ _ h=>h) (yieldsIf_load_mid (by rfl) 23 (.tmp 8) rfl f 0 rfl (g.cells) _ (fun w h=>h.1) underlying23 rfl bM) (by assumption) ?_
 (try go_frame)
 refine hp 4 ?_;refine hp 5 ?_;refine hp 6 ?_;refine hp 7 ?_;refine wpAnyH_ready (rs:=[8]) (by kernel_rfl) (by simp) ?_;refine AllReadyH.cons rfl (fun K l=> ?_) AllReadyH.nil;go_simp
 refine(yA g a _ m o p).mono ?_
 rintro e q ⟨rfl,d⟩;have k:=hid d;have j:=hid (h.drew.below d h.drew.lt);clear d
 (try go_wp2_with fail)
 refine l.out _ _ (⟨lk j.out,j.cell (i:=3) rfl⟩) (fun c=> ?_);clear l K b;have b:=c;clear c
 (try go_frame)
 refine hp 9 ?_;refine wpAnyH_done (by kernel_rfl) ?_ _;clear b;go_wp2_with fail;go_ret;exact⟨rfl,(Below.refl _ _).drew.trans k.out⟩
theorem kr (f:Nat) (g:aI) (c:Int) (w:World) (h:ac w f (bS g c) 242) (m:cD g):
  Calls prog 80 #[.pointer (some ⟨f,0,none⟩)] w fun e w'=>e= .returned (.bool (decide (c<g.blocks-4)))∧Below w.heap.size w w':=by
 go_enter func80,ntmps80;go_wp2_with fail;refine wp_region_held_drew (S:=fun n=>n.rangeAt f 0 g.cells∧n.cell? ⟨f,3,none⟩=some (.int .i64 c)) (by kernel_rfl) (⟨lk h.drew,h.drew.cell (i:=3) rfl⟩) (fun b=> ?_);refine hp 0 ?_;refine wpAnyH_ready (rs:=[1]) (by kernel_rfl) (by simp) ?_;refine AllReadyH.cons rfl (fun K l=> ?_) AllReadyH.nil;go_simp
 refine(fR f g c _ h.drew m).mono ?_
 rintro e w' ⟨rfl,rfl⟩
 (try go_wp2_with fail)
 refine l.out _ _ (⟨lk h.drew,h.drew.cell (i:=3) rfl⟩) (fun a=> ?_);clear l K b;have b:=a;clear a
 (try go_frame)
 refine hp 2 ?_;refine hp 3 ?_;refine hp 4 ?_;refine hp 5 ?_;refine hp 6 ?_;refine hp 7 ?_;refine hp 8 ?_;refine hp 9 ?_;refine wpAnyH_take (i:=10) (v:= .agg (g.cells).toArray) rfl (by kernel_rfl) (by kernel_rfl) (by kernel_rfl) (fun _ _ _ h=>h) (yieldsIf_load_mid (by rfl) 23 (.tmp 12) rfl f 0 rfl (g.cells) _ (fun w h=>h.1) underlying23 rfl bM) (by assumption) ?_
 (try go_frame)
 refine wpAnyH_ready (rs:=[11]) (by kernel_rfl) (by simp) ?_;refine AllReadyH.cons rfl (fun K l=> ?_) AllReadyH.nil;go_simp
 refine(iw g _ m).mono ?_
 rintro e o ⟨rfl,d⟩;have j:=hid d;have k:=hid (h.drew.below d h.drew.lt);clear d
 (try go_wp2_with fail)
 refine l.out _ _ (⟨lk k.out,k.cell (i:=3) rfl⟩) (fun a=> ?_);clear l K b;have b:=a;clear a
 (try go_frame)
 refine hp 12 ?_;refine hp 13 ?_;refine hp 14 ?_;refine wpAnyH_done (by kernel_rfl) ?_ _;clear b;go_wp2_with fail;go_ret
 first
  |exact⟨rfl,(Below.refl _ _).drew.trans j.out⟩
  |exact⟨dV (by simp),(Below.refl _ _).drew.trans j.out⟩
theorem vC (a:Nat) (g:aI) (used:Int) (w:World) (h:ac w a (bS g used) 242) (c:cD g) (b:0≤used) (d:used<g.blocks-5):
  Calls prog 235 #[.pointer (some ⟨a,0,none⟩)] w fun e w'=>e= .returned (.bool true)∧Below w.heap.size w w':=by
 have f:0<cj g used:=by unfold cj;omega
 go_enter func235,ntmps235;go_wp2_with fail
 refine(ot a g used _ h c b (by omega)).mono ?_
 rintro e w' ⟨rfl,hb⟩;go_wp2_with fail;go_ret;exact⟨rfl,hb⟩
theorem vD (a:Nat) (g:aI) (used:Int) (w:World) (h:ac w a (bS g used) 242) (c:cD g) (k:0≤used) (l:used<g.blocks-5):
  Calls prog 234 #[.pointer (some ⟨a,0,none⟩), .func (.func 235) #[.pointer (some ⟨a,0,none⟩)] #[], .int .i64 5] w fun e w'=>(e= .returned (.tuple #[.int .i64 used, .int .i64 0])∧ac w' a (bS g (used+1)) 242)∧ai [a] w w':=by
 have m:=c.b1;have hu:used≤1024:=by omega
 have d:used+1-1=used:=by omega
 go_enter func234,ntmps234;go_wp2_with fail
 refine(fR a g used _ h c).mono ?_
 rintro e w' ⟨rfl,rfl⟩;go_wp2_with fail
 refine(vC a g used _ h c k l).mono ?_
 rintro e p ⟨rfl,hb⟩;have b:=h.below hb h.lt;have n:=b.cell (i:=3) rfl;have o:=b.free 3;have j:=hid hb;have f:=hid b;clear hb b;go_wp2_with fail;go_ret2;refine⟨⟨?_,(f.set 3 _).ext rfl⟩,(ai.of_below j.out (Nat.le_refl _)).trans ((ai.refl _ _).setCell (.inl (by simp)) 3 _)⟩
 first|rfl|(rw[d])
theorem vE (c:Nat) (g:aI) (a:Int) (w:World) (h:ac w c (bS g a) 242) (j:cD g) (f:0≤a) (i:a<g.blocks-5):
  Calls prog 161 #[.pointer (some ⟨c,0,none⟩)] w fun e w'=>(e= .returned (.tuple #[.int .i64 a, .int .i64 0])∧ac w' c (bS g (a+1)) 242)∧ai [c] w w':=by
 have k:∀(d:Fn) (first b:Array Value) (w:World),(Instr.makeFunc d first b).run prog w= .ok (.func d first b) w:=fun _ _ _ _=>rfl
 go_enter func161,ntmps161;go_wp2_with fail
 refine(vD c g a _ h j f i).mono ?_
 rintro e m ⟨⟨rfl,hb⟩,l⟩;go_wp2_with fail;go_ret2;exact⟨⟨rfl,hb⟩,l⟩
theorem ub (a:Nat) (g:aI) (used:Int) (w:World) (h:ac w a (bS g used) 242) (c:cD g) (p:0≤used) (l:used<g.blocks-4):
  Calls prog 234 #[.pointer (some ⟨a,0,none⟩), .func (.func 80) #[.pointer (some ⟨a,0,none⟩)] #[], .int .i64 6] w fun e w'=>(e= .returned (.tuple #[.int .i64 used, .int .i64 0])∧ac w' a (bS g (used+1)) 242)∧ai [a] w w':=by
 have m:=c.b1;have hu:used≤1024:=by omega
 have d:used+1-1=used:=by omega
 go_enter func234,ntmps234;go_wp2_with fail
 refine(fR a g used _ h c).mono ?_
 rintro e w' ⟨rfl,rfl⟩;go_wp2_with fail
 refine((kr a g used _ h c).mono (fun e w' f=>show e= .returned (.bool true)∧Below _ _ w' from⟨by rw[f.1,decide_eq_true l],f.2⟩)).mono ?_
 rintro e q ⟨rfl,hb⟩;have b:=h.below hb h.lt;have n:=b.cell (i:=3) rfl;have o:=b.free 3;have k:=hid hb;have j:=hid b;clear hb b;go_wp2_with fail;go_ret2;refine⟨⟨?_,(j.set 3 _).ext rfl⟩,(ai.of_below k.out (Nat.le_refl _)).trans ((ai.refl _ _).setCell (.inl (by simp)) 3 _)⟩
 first|rfl|(rw[d])
theorem uc (c:Nat) (g:aI) (a:Int) (w:World) (h:ac w c (bS g a) 242) (j:cD g) (f:0≤a) (i:a<g.blocks-4):
  Calls prog 177 #[.pointer (some ⟨c,0,none⟩)] w fun e w'=>(e= .returned (.tuple #[.int .i64 a, .int .i64 0])∧ac w' c (bS g (a+1)) 242)∧ai [c] w w':=by
 have k:∀(d:Fn) (first b:Array Value) (w:World),(Instr.makeFunc d first b).run prog w= .ok (.func d first b) w:=fun _ _ _ _=>rfl
 go_enter func177,ntmps177;go_wp2_with fail
 refine(ub c g a _ h j f i).mono ?_
 rintro e m ⟨⟨rfl,hb⟩,l⟩;go_wp2_with fail;go_ret2;exact⟨⟨rfl,hb⟩,l⟩
structure bC (v:ak):Prop where
 sup:ii v.last
 u0:0≤v.used
 u1:v.used≤v.last.geo.blocks-4
 calm:Calm v.d v.last.geo.blocks.toNat v.used.toNat
theorem bC.few {v:ak} (h:bC v):v.used.toNat≤1020:=by have:=h.u1;have:=h.sup.geo.b1;omega
theorem bC.blocks {v:ak} (h:bC v):v.last.geo.blocks.toNat≤1024:=by have:=h.sup.geo.b1;omega
theorem ix (i:ar) (v:ak) (w:World) (h:am w i v):
  Calls prog 113 #[.pointer (some ⟨i.jb,0,none⟩)] w fun e w'=>e= .returned (.int .i64 0)∧w=w':=by
 have a:=h.jour.cell (i:=1) rfl;have b:w.cell? ⟨i.jb,9,none⟩=some (.bool false):=h.jour.cell (i:=9) rfl;go_enter func113,ntmps113;go_wp2_with fail;go_ret;exact⟨rfl,rfl⟩
theorem pi (i:ar) (v:ak) (w:World) (h:am w i v) (a:bC v):
  Calls prog 75 #[.pointer (some ⟨i.jb,0,none⟩)] w fun e w'=>e= .returned (.int .i64 v.used)∧w=w':=by
 have b:=h.jour.cell (i:=0) rfl;go_enter func75,ntmps75;go_wp2_with fail
 refine(kG i.sb v.last.geo v.used _ h.space a.sup.geo).mono ?_
 rintro e w' ⟨rfl,rfl⟩;go_wp2_with fail;go_ret;exact⟨rfl,rfl⟩
theorem jO (i:ar) (v:ak) (w:World) (h:am w i v) (a:bC v):
  Calls prog 74 #[.pointer (some ⟨i.jb,0,none⟩)] w fun e w'=>e= .returned (.int .i64 (cj v.last.geo v.used))∧Below w.heap.size w w':=by
 have b:=h.jour.cell (i:=0) rfl;go_enter func74,ntmps74;go_wp2_with fail
 refine(ot i.sb v.last.geo v.used _ h.space a.sup.geo a.u0 a.u1).mono ?_
 rintro e w' ⟨rfl,hb⟩;go_wp2_with fail;go_ret;exact⟨rfl,hb⟩
theorem pj (i:ar) (v:ak) (k:Int) (w:World) (h:am w i v) (p:bC v) (t:0≤k) (x:k<v.used):
  Calls prog 138 #[.pointer (some ⟨i.jb,0,none⟩), .int .i64 k] w fun e w'=>e= .returned (.tuple #[.string (v.d.shown (4+k)), .int .i64 0])∧Below w.heap.size w w':=by
 have r:=hid (show 0≤k∧k<v.last.geo.blocks-4 from⟨t,by have:=p.u1;omega⟩);obtain⟨o,n⟩:∃o:Nat,(o:Int)=4+k:=⟨(4+k).toNat,by omega⟩;have g:=hid n;have j:=hid (show o<v.last.geo.blocks.toNat from by have:=p.u1;omega);have c:=hid p;have s:=h.jour.cell (i:=0) rfl;clear p n;go_enter func138,ntmps138;go_wp2_with fail
 refine(ix i v _ h).mono ?_
 rintro e w' ⟨rfl,rfl⟩;go_wp2_with fail
 refine(kG i.sb v.last.geo v.used _ h.space c.sup.geo).mono ?_
 rintro e w' ⟨rfl,rfl⟩;go_upto_region 6 with fail;clear s;refine wp_region_held_drew (S:=fun u=>u.cell? ⟨i.jb,1,none⟩=some (.pointer (some ⟨i.db,0,none⟩))) (by kernel_rfl) (h.jour.drew.cell (i:=1) rfl) (fun b=> ?_);refine hp 0 ?_;refine hp 1 ?_;refine hp 2 ?_;refine hp 3 ?_;refine hp 4 ?_;refine hp 5 ?_;refine wpAnyH_ready (rs:=[6]) (by kernel_rfl) (by simp) ?_;refine AllReadyH.cons rfl (fun K l=> ?_) AllReadyH.nil;go_simp
 refine(iT i.jb i.db _ v.last k _ h.jour.drew c.sup.geo r.out.1 r.out.2).mono ?_
 rintro e y ⟨rfl,m⟩;have f:=hid ((Below.refl _ _).drew.trans m);have q:=hid (h.below f.out);clear m
 (try go_wp2_with fail)
 refine l.out _ _ (q.jour.cell (i:=1) rfl) (fun a=> ?_);clear l K b;have b:=a;clear a
 (try go_frame)
 refine wpAnyH_ready (rs:=[7]) (by kernel_rfl) (by simp) ?_;refine AllReadyH.cons rfl (fun K l=> ?_) AllReadyH.nil;go_simp;rw[←g.out]
 refine(fc i.db v.d _ q.disk c.calm.up o (by rw[c.calm.len];exact j.out) (by have:=c.calm.few;have:=c.few;omega) (by rw[c.calm.len];exact c.blocks)).mono ?_
 rintro e w' ⟨rfl,rfl⟩
 (try go_wp2_with fail)
 refine l.out _ _ (q.jour.cell (i:=1) rfl) (fun a=> ?_);clear l K b;have b:=a;clear a
 (try go_frame)
 refine hp 8 ?_;refine hp 9 ?_;refine hp 10 ?_;refine hp 11 ?_;refine wpAnyH_done (by kernel_rfl) ?_ _;clear b;go_wp2_with fail;go_ret2;exact⟨by show Ending.returned (.tuple #[.string (v.d.shown (o:Int)), .int .i64 0])= _;rw[g.out],f.out⟩
theorem mq (i:ar) (v:ak) (a:ByteArray) (w:World) (h:am w i v) (I:bC v) (hb:a.size=4096) (hu:v.used<v.last.geo.blocks-5):
  Calls prog 78 #[.pointer (some ⟨i.jb,0,none⟩), .string a] w fun e Q=>e= .returned (.tuple #[.int .i64 v.used, .int .i64 0])∧∃cv,aK w Q i v i {v with used:=v.used+1,d:={v.d with cv:=cv,cs:=v.d.cs++[(4+v.used,a)]}}:=by
 have V:(a.size:Int)=4096:=by omega
 obtain⟨u,g⟩:∃u,v.used=u:=⟨_,rfl⟩;have T:=hid g;have c:=hid (show 0≤u∧u<v.last.geo.blocks-5 from⟨by rw[←g];exact I.u0,by rw[←g];exact hu⟩);have f:=hid I;have S:=hid hb;have R:=hid h;rw[g];clear hu g I hb;have U:=h.jour.cell (i:=0) rfl;go_enter func78,ntmps78;go_wp2_with fail
 refine(ix i v _ h).mono ?_
 rintro e Q ⟨rfl,rfl⟩;go_wp2_with fail
 refine(vE i.sb v.last.geo u _ (by rw[←T.out];exact h.space) f.sup.geo c.out.1 c.out.2).mono ?_
 rintro e w1 ⟨⟨rfl,t⟩,y⟩;have q:=hid (R.take y t);clear y t U h;go_wp2_with fail
 refine(iT i.jb i.db _ v.last u _ q.at'.jour f.sup.geo c.out.1 (by have:=c.out.2;omega)).mono ?_
 rintro e w2 ⟨rfl,s⟩;have r:=hid (q.below s);clear s;go_wp2_with fail
 refine(fY i.jb (4+u) a _).mono ?_
 rintro e n ⟨⟨J,K,L,rfl,bH,M,N,O⟩,l⟩;have E:=hid (r.below l);have C:=hid bH;have B:=hid (fun x (H:x∈v.d.foot i.db)=>r.at'.disk.lt x H);have A:=hid (And.intro M (And.intro N O));have D:=hid l.size;clear l bH M N O;go_wp2_with fail;obtain⟨w4,j⟩:∃w4,w4=n.alloc (Obj.cells #[.func (.func 187) #[] #[.pointer (some ⟨J,0,none⟩), .pointer (some ⟨K,0,none⟩), .pointer (some ⟨L,0,none⟩)]] 42):=⟨_,rfl⟩;rw[←j];have m:Below n.heap.size n w4:=by rw[j];exact(Below.refl _ _).alloc (Nat.le_refl _) _
 have k:ac w4 n.heap.size [.func (.func 187) #[] #[.pointer (some ⟨J,0,none⟩), .pointer (some ⟨K,0,none⟩), .pointer (some ⟨L,0,none⟩)]] 42:=by rw[j];exact ac.new n _ _
 have o:=hid k;have b:=hid (E.below m);have p:=hid (C.below m);clear k m j
 refine(qy i.jb i.db n.heap.size 1 v.last.geo.blocks.toNat v.used.toNat J K L (4+u) a 42 v.d _ b.at'.disk o.out (b.at'.jour.cell (i:=1) rfl) b.at'.jour.lt p.out (by
  intro x H P;have W:=B.out x P;have Y:=A.out;have Z:=D.out
  rcases H with rfl|rfl|rfl|rfl|rfl
  ·omega
  ·exact(b.at'.jour.ty.notin b.at'.disk.tyIn (by decide)) P
  ·omega
  ·omega
  ·omega) f.calm (by have:=f.few;omega) f.blocks ⟨by have:=c.out.1;omega,by have:=c.out.2;omega⟩ S.out).mono ?_
 rintro e w5 ⟨rfl,X,⟨cv,G⟩,z⟩;subst G;have F:=hid (b.trans (b.at'.disk_to z));clear z;go_wp2_with fail;go_ret2;exact⟨rfl,cv,F.out⟩
theorem xh (b f c:Nat) (key a:ByteArray) (xv sv d g:Value) (w:World) (h:ac w b [.pointer (some ⟨f,0,none⟩), .string key, .string a,xv,sv, .pointer (some ⟨c,0,none⟩),d,g] 104):
  Calls prog 32 #[.pointer (some ⟨b,0,none⟩)] w fun e w'=>e= .returned (.bool true)∧w=w':=by
 have j:=h.cell (i:=0) rfl;have k:=h.cell (i:=5) rfl;go_enter func32,ntmps32;go_wp2_with fail;go_ret;exact⟨rfl,rfl⟩
theorem Cf (f o g l p q r:Nat) (first a:Int) (key c:ByteArray) (xv sv m s:Value) (w:World) (h:ac w f [.pointer (some ⟨o,0,none⟩), .string key, .string c,xv,sv, .pointer (some ⟨g,0,none⟩),m,s] 104) (hb:ac w g (aX l first a p q r) 193):
  Calls prog 11 #[.pointer (some ⟨f,0,none⟩)] w fun e j=>e= .returned (.tuple #[.int .i64 a, .string key, .string c])∧j=w.drew:=by
 go_enter func11,ntmps11;go_wp2_with fail
 refine(xh f o g key c xv sv m s _ h).mono ?_
 rintro e j ⟨rfl,rfl⟩;go_wp2_with fail;refine wp_region_held_drew (S:=fun k=>k.cell? ⟨f,5,none⟩=some (.pointer (some ⟨g,0,none⟩))∧k.cell? ⟨f,1,none⟩=some (.string key)∧k.cell? ⟨f,2,none⟩=some (.string c)) (by kernel_rfl) (⟨h.drew.cell (i:=5) rfl,h.drew.cell (i:=1) rfl,h.drew.cell (i:=2) rfl⟩) (fun b=> ?_);refine hp 0 ?_;refine hp 1 ?_;refine hp 2 ?_;refine hp 3 ?_;refine hp 5 ?_;refine hp 6 ?_;refine hp 7 ?_;refine hp 8 ?_;refine hp 9 ?_;refine hp 10 ?_;refine hp 11 ?_;refine hp 12 ?_;refine wpAnyH_ready (rs:=[4]) (by kernel_rfl) (by simp) ?_;refine AllReadyH.cons rfl (fun K n=> ?_) AllReadyH.nil;go_simp
 refine(bg g l first a p q r _ hb.drew).mono ?_
 rintro e j ⟨rfl,rfl⟩
 (try go_wp2_with fail)
 refine n.out _ _ (⟨h.drew.cell (i:=5) rfl,h.drew.cell (i:=1) rfl,h.drew.cell (i:=2) rfl⟩) (fun d=> ?_);clear n K b;have b:=d;clear d
 (try go_frame)
 refine hp 13 ?_;refine hp 14 ?_;refine hp 15 ?_;refine wpAnyH_done (by kernel_rfl) ?_ _;clear b;go_wp2_with fail
 (try simp only[Exit.inBlock,Exit.then]);refine bodyPost_ret (results_tmp3 rfl _ _ _) rfl ⟨rfl,rfl⟩
theorem Ci (n:Nat) (v:Value) (i:Nat) (kb q:ByteArray) (h:2≤n):(bP n v i kb q).shown 1=q:=by
 show(((List.replicate n cE).set i kb).set 1 q).getD 1 ByteArray.empty=q
 rw[List.getD,List.getElem?_set_self (by simp;omega)]
 rfl
theorem rX (n:Nat) (v:Value) (i:Nat) (kb q:ByteArray) (h:i<n) (a:i≠1):(bP n v i kb q).shown (i:Int)=kb:=by
 show(((List.replicate n cE).set i kb).set 1 q).getD i ByteArray.empty=kb
 rw[List.getD,List.getElem?_set_ne (by omega),List.getElem?_set_self (by simp;omega)]
 rfl
theorem kM (n:Nat) (v:Value) (i j:Nat) (kb q:ByteArray) (h:j<n) (a:j≠1) (b:j≠i):(bP n v i kb q).shown (j:Int)=(⟨(List.replicate 4096 0).toArray⟩:ByteArray):=by
 show(((List.replicate n cE).set i kb).set 1 q).getD j ByteArray.empty=cE
 rw[List.getD,List.getElem?_set_ne (by omega),List.getElem?_set_ne (by omega)];simp[h]
theorem zA (n:Nat) (v:Value) (i:Nat) (kb q:ByteArray):(bP n v i kb q).bs.length=n:=by
 show(((List.replicate n cE).set i kb).set 1 q).length=n
 simp
theorem zB {n ep:Nat} {a:Int} (b:cD ⟨(n:Int),a,(ep:Int)⟩):ii (⟨1,((0:Nat):Int),(ep:Int),0,⟨(n:Int),a,(ep:Int)⟩⟩:aN):=by
 have d:=b.b0;have c:=b.f1;simp only at d c;refine⟨b, ?_, ?_, ?_, ?_, ?_, ?_, ?_, ?_⟩<;>(try simp only)<;>omega
theorem Ei (d n ep:Nat) (a:Int) (v:Value) (key kb q:ByteArray) (f:cD ⟨(n:Int),a,(ep:Int)⟩) (j:key.size=32) (g:aj kb (gB (ep:Int) key.data.toList)) (l:aj q (eC ⟨1,0,ep,0,⟨(n:Int),a,(ep:Int)⟩⟩)):
  ∀b,aH b d (bP n v (2+ep % 2) kb q)→Calls prog 198 #[.pointer (some ⟨d,0,none⟩)] b fun e w'=>e= .returned (.tuple #[(⟨1,((0:Nat):Int),(ep:Int),0,⟨(n:Int),a,(ep:Int)⟩⟩:aN).v, .string key, .int .i64 0])∧Below b.heap.size b w':=by
 intro b k;have m:8≤n:=by have:=f.b0;simp only at this;omega
 have i:n≤1024:=by have:=f.b1;simp only at this;omega
 have hl:=zA n v (2+ep % 2) kb q;refine Ec d _ ⟨1,((0:Nat):Int),(ep:Int),0,⟨(n:Int),a,(ep:Int)⟩⟩ ep key b k rfl (Nat.zero_le _) (by rw[hl];exact i) (by rw[hl];omega) (zB f) rfl (by rw[hl]) (kM n v _ 0 kb q (by omega) (by omega) (by omega)) ?_ j ?_
 ·rw[Ci n v _ kb q (by omega)];exact l
 ·by_cases hp:ep % 2=0
  ·have c:(bP n v (2+ep % 2) kb q).shown 2=kb:=by have:=rX n v (2+ep % 2) kb q (by omega) (by omega);rw[hp]at this ⊢;exact this
   simp only[hp,if_true];rw[hp]at c;rw[c];exact g
  ·have h:ep % 2=1:=by omega
   have c:(bP n v (2+ep % 2) kb q).shown 3=kb:=by have:=rX n v (2+ep % 2) kb q (by omega) (by omega);rw[h]at this ⊢;exact this
   rw[if_neg hp];rw[c];exact g
theorem Ej (n ep:Nat) (v:Value) (kb q:ByteArray) (a:8≤n):(if ep % 2=0 then(bP n v (2+ep % 2) kb q).shown 3 else(bP n v (2+ep % 2) kb q).shown 2)=(⟨(List.replicate 4096 0).toArray⟩:ByteArray):=by
 by_cases hp:ep % 2=0
 ·rw[if_pos hp];exact kM n v _ 3 kb q (by omega) (by omega) (by omega)
 ·rw[if_neg hp];exact kM n v _ 2 kb q (by omega) (by omega) (by omega)
theorem fG.lower {w:World} {m f u l t k v g j i p q r:Nat} {s:Option Addr} {key b:ByteArray} {e a n c first ep:Int} {d:ao} (h:fG w m u l t k v g j i p q r s key b e a n c first ep d) (hl:f≤m):fG w f u l t k v g j i p q r s key b e a n c first ep d:=
 ⟨h.vol,h.jour,h.space,h.disk,h.index,h.book,h.bclock,h.clock,h.maps,⟨Nat.le_trans hl h.o.1,h.o.2⟩,⟨Nat.le_trans hl h.om.1,Nat.le_trans hl h.om.2.1,Nat.le_trans hl h.om.2.2⟩⟩
theorem fG.below {w u:World} {l t k s j v f i g m p q:Nat} {r:Option Addr} {key b:ByteArray} {e a n c first ep:Int} {d:ao} (h:fG w l t k s j v f i g m p q r key b e a n c first ep d) (hb:Below w.heap.size w u):fG u l t k s j v f i g m p q r key b e a n c first ep d:=
 ⟨h.vol.below hb h.vol.lt,h.jour.below hb h.jour.lt,h.space.below hb h.space.lt,h.disk.below hb,h.index.below hb h.index.lt,h.book.below hb h.book.lt,h.bclock.below hb h.bclock.lt,h.clock.below hb h.clock.lt,h.maps.below hb,h.o,h.om⟩
theorem Ek (d n ep:Nat) (g:Option Addr) (a:Int) (v:Value) (key b kb q:ByteArray) (w:World) (f:cD ⟨(n:Int),a,(ep:Int)⟩) (s:key.size=32) (A:aj kb (gB (ep:Int) key.data.toList)) (B:aj q (eC ⟨1,0,ep,0,⟨(n:Int),a,(ep:Int)⟩⟩))
  (c:b.size=16) (h:aH w d (bP n v (2+ep % 2) kb q)):
  Calls prog 46 #[.pointer (some ⟨d,0,none⟩), .string b, .pointer g] w fun e w'=>(∃j t z C k m l u x y,e= .returned (.tuple #[.pointer (some ⟨j,0,none⟩), .int .i64 0])∧fG w' w.heap.size j t z d C k m l u x y g key b 1 0 n a ep ep (bP n v (2+ep % 2) kb q))∧Below w.heap.size w w':=by
 have o:8≤n:=by have:=f.b0;simp only at this;omega
 have p:n≤1024:=by have:=f.b1;simp only at this;omega
 have hl:=zA n v (2+ep % 2) kb q;exact Cc d n ep g 1 0 a (ep:Int) key b _ w h c rfl (zB f) rfl (Nat.zero_le _) (by rw[hl];exact p) hl (fun i D r=>kM n v _ i kb q r (by omega) (by omega)) (Ej n ep v kb q o) (Ei d n ep a v key kb q f s A B)
def mg (s:UInt8×UInt8×UInt8):UInt8×UInt8×UInt8:=
 (if s.2.2&&&1=1 then s.1^^^s.2.1 else s.1,(s.2.1<<<1)^^^((s.2.1>>>7)*27),s.2.2>>>1)
def pn (a b:UInt8):Nat→UInt8×UInt8×UInt8
 |0=>(0,a,b)
 |k+1=>mg (pn a b k)
def pq (a b:UInt8):UInt8:=(pn a b 8).1
def eK (b n:UInt8):UInt8:=(b<<<n)|||(b>>>(8-n))
def eZ:Nat→UInt8×UInt8×List UInt8
 |0=>(1,1,List.replicate 256 0)
 |k+1=>
  let p:=pq (eZ k).1 3
  let q:=pq (eZ k).2.1 246
  (p,q,(eZ k).2.2.set p.toNat (q^^^eK q 1^^^eK q 2^^^eK q 3^^^eK q 4^^^99))
theorem iM:∀k,(eZ k).2.2.length=256
 |0=>by show(List.replicate 256 (0:UInt8)).length=256;exact List.length_replicate
 |k+1=>by simp only[eZ,List.length_set];exact iM k
def jk:List UInt8:=(eZ 255).2.2.set 0 99
theorem dd:jk.length=256:=by unfold jk;rw[List.length_set,iM]
def cN (b:UInt8):UInt8:=jk.getD b.toNat 0
def bZ (f:Nat→UInt8) (l:List UInt8) (k:Nat):List UInt8:=(List.range k).map f++l.drop k
theorem im (f:Nat→UInt8) (l:List UInt8) (k:Nat) (h:k≤l.length):(bZ f l k).length=l.length:=by simp[bZ];omega
theorem jn (f:Nat→UInt8) (l:List UInt8):bZ f l 0=l:=by simp[bZ]
theorem xi (f:Nat→UInt8) (l:List UInt8) (k j:Nat) (a:k≤j) (h:k≤l.length):(bZ f l k)[j]?=l[j]?:=by
 unfold bZ;rw[List.getElem?_append_right (by simp;omega)];simp;rw[show k+(j-k)=j by omega]
theorem jP (f:Nat→UInt8) (l:List UInt8) (k:Nat) (h:k<l.length):(bZ f l k).set k (f k)=bZ f l (k+1):=by
 unfold bZ;have e:l.drop k=l[k]::l.drop (k+1):=List.drop_eq_getElem_cons h;rw[e,List.range_succ,List.map_append,List.append_assoc,List.set_append_right _ _ (by simp)];simp only[List.length_map,List.length_range,Nat.sub_self,List.set_cons_zero,List.map_cons,List.map_nil,List.cons_append,List.nil_append]
theorem jQ (f:Nat→UInt8) (l:List UInt8) (n:Nat) (h:l.length=n):bZ f l n=(List.range n).map f:=by
 unfold bZ;rw[List.drop_of_length_le (by omega),List.append_nil]
def sU (x w:List UInt8) (r:Nat):List UInt8:=(List.range 16).map fun i=>x.getD i 0^^^w.getD (16*r+i) 0
def m4 (x:List UInt8):List UInt8:=(List.range 16).map fun i=>x.getD ((i/4+i % 4) % 4*4+i % 4) 0
def jR (x by4:List UInt8) (i:Nat):Nat→UInt8
 |0=>0
 |k+1=>jR x by4 i k^^^pq (x.getD (i/4*4+k) 0) (by4.getD ((k+4-i % 4) % 4) 0)
def vF (x by4:List UInt8):List UInt8:=(List.range 16).map fun i=>jR x by4 i 4
def m5 (x:List UInt8):List UInt8:=(List.range 16).map fun i=>cN (x.getD i 0)
def m7 (w:List UInt8) (i:Nat) (power:UInt8):List UInt8:=
 let t:=(List.range 4).map fun r=>w.getD (4*(i-1)+r) 0
 if i % 4=0 then[cN (t.getD 1 0)^^^power,cN (t.getD 2 0),cN (t.getD 3 0),cN (t.getD 0 0)]else t
def ba (key:List UInt8):Nat→List UInt8×UInt8
 |0=>([],1)
 |i+1=>
  if i<4 then((ba key i).1++(List.range 4).map (fun r=>key.getD (4*i+r) 0),(ba key i).2)
  else((ba key i).1++(List.range 4).map (fun r=>(ba key i).1.getD (4*(i-4)+r) 0^^^(m7 (ba key i).1 i (ba key i).2).getD r 0),if i % 4=0 then pq (ba key i).2 2 else(ba key i).2)
theorem dI (key:List UInt8):∀i,(ba key i).1.length=4*i
 |0=>rfl
 |i+1=>by
  unfold ba
  split<;>simp[dI key i]<;>omega
def kt (key:List UInt8):List UInt8:=(ba key 44).1
theorem iy (key:List UInt8):(kt key).length=176:=by unfold kt;rw[dI]
def fZ (w x:List UInt8):Nat→List UInt8
 |0=>sU x w 0
 |r+1=>sU (if r+1<10 then vF (m4 (m5 (fZ w x r))) [2,3,1,1]else m4 (m5 (fZ w x r))) w (r+1)
theorem Cj (x w:List UInt8) (r:Nat):(sU x w r).length=16:=by simp[sU]
theorem qz (x:List UInt8):(m4 x).length=16:=by simp[m4]
theorem Cm (x b:List UInt8):(vF x b).length=16:=by simp[vF]
theorem zC (x:List UInt8):(m5 x).length=16:=by simp[m5]
theorem mr (w x:List UInt8) (r:Nat):(fZ w x r).length=16:=by cases r<;>simp only[fZ,Cj]
end Go.Proofs.YtadooplpfhdhcaaGreat
