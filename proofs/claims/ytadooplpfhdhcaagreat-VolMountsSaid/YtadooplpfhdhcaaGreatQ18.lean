/- Versions (chapter 14): where one stands, at rows of the call's own. An index (chapter 14): a version is put behind all others. A volume (chapter 26): Super, Geo, place, Write. A cell that may not be (chapter 12): Check, Put. -/
import Derived.Test.YtadooplpfhdhcaaGreatQ17
import Derived.Test.YtadooplpfhdhcaaGreatQ7
import Derived.Test.YtadooplpfhdhcaaGreatQ4
import Derived.Deep.DeepAppendWide
import Derived.Test.YtadooplpfhdhcaaGreatQ14
set_option linter.unusedSimpArgs false
set_option linter.unusedVariables false
set_option maxRecDepth 100000
set_option maxHeartbeats 4000000
namespace Go.Proofs.YtadooplpfhdhcaaGreat
open Go Go.RowKit
open Go.Lib (hid)
open Go.Proofs.Tryz
theorem ed {w:World} {g:Nat} {l:List ag} {z:List Value} {t:TypeId} (h:ac w g (ar l++z) t) {m:Nat} {x:ag} (b:l[m]?=some x):w.rangeAt g (m*3) x.cells:=by
 have hl:=(List.getElem?_eq_some_iff.1 b).1;have a:=Ih l m x b;have c:=fl l;intro j u hu
 match j,hu with
 |0,hu=>simp[ag.cells]at hu;subst hu;exact h.cell (by rw[List.getElem?_append_left (by omega)];exact a.1)
 |1,hu=>simp[ag.cells]at hu;subst hu;exact h.cell (by rw[List.getElem?_append_left (by omega)];exact a.2.1)
 |2,hu=>simp[ag.cells]at hu;subst hu;exact h.cell (by rw[List.getElem?_append_left (by omega)];exact a.2.2)
 |j+3,hu=>simp[ag.cells]at hu
structure jC (l:List ag) (v:ag) (i:Nat):Prop where
 le:i≤l.length
 ahead:∀(t:Nat) (x:ag),l[t]?=some x→t<i→cL x v<0
 behind:∀(t:Nat) (x:ag),l[t]?=some x→i≤t→0≤cL x v
theorem pp (g O n:Nat) (l:List ag) (z:List Value) (v:ag) (w:World) (h:ac w g (ar l++z) 130) (hn:l.length=n) (hb:n≤1048576)
  (u:∀(i j:Nat) (a b:ag),l[i]?=some a→l[j]?=some b→i≤j→cL b v<0→cL a v<0) (A:∀(t:Nat) (x:ag),l[t]?=some x→cL x v≠0):
  Calls prog 165 #[.slice (some ⟨g,0,none⟩) n O, .agg v.cells.toArray, .func (.func 166) #[] #[]] w fun e w'=>(∃i:Nat,e= .returned (.tuple #[.int .i64 (i:Int), .bool false])∧jC l v i)∧Below w.heap.size w w':=by
 have F:=hid h;have G:=hid hn;have W:=hid u;have N:=hid A;clear h hn u A;go_enter func165,ntmps165
 go_wp2_with (first
  |((with_reducible refine ae 130 (.tmp 1) v.cells (some 4) ?hgd ?ho ?hd ?hx ?_);(case hgd|ho|hd|hx=>rfl);(intro H w1 T V P z1))
  |fail)
 have M:=hid (F.below (P.mono T) F.lt);have L:=hid V;have E:=hid (P.mono T);clear V P T z1;go_loopw [9,10] (fun s9 U wr=>∃f hi:Nat,s9= .int .i64 f∧U= .int .i64 hi∧f≤hi∧hi≤n∧Hid ((∀(t:Nat) (x:ag),l[t]?=some x→t<f→cL x v<0)∧(∀(t:Nat) (x:ag),l[t]?=some x→hi≤t→0≤cL x v))∧Hid (ac wr g (ar l++z) 130)∧Hid (ac wr H v.cells 130)∧Hid (Below w.heap.size w wr)) (fun a b _=>(intOf b).toNat-(intOf a).toNat)
 case atStart=>exact⟨0,n,rfl,rfl,Nat.zero_le _,Nat.le_refl _,hid ⟨fun t x _ J=>absurd J (Nat.not_lt_zero _),fun t x hx J=>by have:=(List.getElem?_eq_some_iff.1 hx).1;have:=G.out;omega⟩,M,L,E⟩
 case round=>
  obtain⟨f,hi,rfl,rfl,Z,Q,C,B,q,r⟩:=hrel
  by_cases an:f<hi
  ·obtain⟨m,hm⟩:∃m:Nat,(f+hi)/2=m:=⟨_,rfl⟩
   have a2:((f:Int)+(hi:Int))/2=(m:Int):=by omega
   have R:f≤m:=by omega
   have a0:m<hi:=by omega
   have a1:(m:Int)<(n:Int):=by omega
   have aA:(0:Int)≤(m:Int):=by omega
   obtain⟨x,hx⟩:∃x,l[m]?=some x:=⟨_,List.getElem?_eq_getElem (by have:=G.out;omega)⟩;clear hm;go_wp2_with fail;refine wp_region_held_drew (S:=fun D=>D.rangeAt g (m*3) x.cells∧D.rangeAt H 0 v.cells) (by kernel_rfl) (⟨ed B.drew hx,q.drew.range⟩) (fun c=> ?_);refine hp 0 ?_;refine hp 1 ?_;refine hp 2 ?_;refine hp 3 ?_;refine wpAnyH_take (i:=4) (v:= .agg (x.cells).toArray) rfl (by kernel_rfl) (by kernel_rfl) (by kernel_rfl) (fun _ _ _ h=>h) (yieldsIf_load_mid (by rfl) 130 (.tmp 27) rfl g (m*3) rfl (x.cells) _ (fun w h=>h.1) underlying130 rfl aM) (by assumption) ?_
   (try go_frame)
   refine wpAnyH_take (i:=5) (v:= .agg (v.cells).toArray) rfl (by kernel_rfl) (by kernel_rfl) (by kernel_rfl) (fun _ _ _ h=>h) (yieldsIf_load_mid (by rfl) 130 (.tmp 4) rfl H 0 rfl (v.cells) _ (fun w h=>h.2) underlying130 rfl aM) (by assumption) ?_
   (try go_frame)
   refine wpAnyH_ready (rs:=[6]) (by kernel_rfl) (by simp) ?_;refine AllReadyH.cons rfl (fun K I=> ?_) AllReadyH.nil;go_simp
   refine(tf x v _).mono ?_
   rintro e wa ⟨rfl,k⟩;have s:=hid (B.drew.below k B.lt);have o:=hid (q.drew.below k q.lt);have p:=hid ((r.drew).trans (k.mono r.size));clear k
   (try go_wp2_with fail)
   refine I.out _ _ (⟨ed s.out hx,o.range⟩) (fun d=> ?_);clear I K c;have c:=d;clear d
   (try go_frame)
   refine hp 7 ?_;refine wpAnyH_done (by kernel_rfl) ?_ _;clear c
   by_cases hc:cL x v<0
   ·go_wp2_with fail
    go_roundw
    case rel=>exact⟨m+1,hi,by go_num,rfl,by omega,Q,hid ⟨fun t y hy J=>W.out t m y x hy hx (by omega) hc,C.out.2⟩,s,o,p⟩
    case measure=>simp[intOf];omega
   ·go_wp2_with fail
    go_roundw
    case rel=>exact⟨f,m,rfl,rfl,R,by omega,hid ⟨C.out.1,fun t y hy J=>by
     by_cases Y:cL y v<0
     ·exact absurd (W.out m t x y hx hy J Y) hc
     ·omega⟩,s,o,p⟩
    case measure=>simp[intOf];omega
  ·obtain rfl:f=hi:=by omega
   go_wp2_with fail
   by_cases ad:f<n
   ·have X:(f:Int)<(n:Int):=by omega
    obtain⟨x,hx⟩:∃x,l[f]?=some x:=⟨_,List.getElem?_eq_getElem (by have:=G.out;omega)⟩;have A:=N.out f x hx;refine wp_region_held_drew (S:=fun D=>D.rangeAt g (f*3) x.cells∧D.rangeAt H 0 v.cells) (by kernel_rfl) (⟨ed B.drew hx,q.drew.range⟩) (fun c=> ?_);refine hp 0 ?_;refine hp 1 ?_;refine hp 2 ?_;refine hp 3 ?_;refine hp 4 ?_;refine hp 5 ?_;refine hp 6 ?_;refine hp 7 ?_;refine hp 8 ?_;refine wpAnyH_take (i:=9) (v:= .agg (x.cells).toArray) rfl (by kernel_rfl) (by kernel_rfl) (by kernel_rfl) (fun _ _ _ h=>h) (yieldsIf_load_mid (by rfl) 130 (.tmp 43) rfl g (f*3) rfl (x.cells) _ (fun w h=>h.1) underlying130 rfl aM) (by assumption) ?_
    (try go_frame)
    refine wpAnyH_take (i:=10) (v:= .agg (v.cells).toArray) rfl (by kernel_rfl) (by kernel_rfl) (by kernel_rfl) (fun _ _ _ h=>h) (yieldsIf_load_mid (by rfl) 130 (.tmp 4) rfl H 0 rfl (v.cells) _ (fun w h=>h.2) underlying130 rfl aM) (by assumption) ?_
    (try go_frame)
    refine wpAnyH_ready (rs:=[11]) (by kernel_rfl) (by simp) ?_;refine AllReadyH.cons rfl (fun K I=> ?_) AllReadyH.nil;go_simp
    refine(tf x v _).mono ?_
    rintro e wa ⟨rfl,k⟩;have s:=hid (B.drew.below k B.lt);have o:=hid (q.drew.below k q.lt);have p:=hid ((r.drew).trans (k.mono r.size));clear k
    (try go_wp2_with fail)
    refine I.out _ _ (⟨ed s.out hx,o.range⟩) (fun d=> ?_);clear I K c;have c:=d;clear d
    (try go_frame)
    refine hp 12 ?_;refine hp 13 ?_;refine hp 14 ?_;refine hp 15 ?_;refine wpAnyH_done (by kernel_rfl) ?_ _;clear c;go_wp2_with fail;go_ret2;have hz:(cL x v==0)=false:=beq_eq_false_iff_ne.2 A;exact⟨⟨f,by show Ending.returned (.tuple #[.int .i64 (f:Int), .bool (cL x v==0)])= _;rw[hz],⟨by have:=G.out;omega,C.out.1,C.out.2⟩⟩,p.out⟩
   ·obtain rfl:f=n:=by omega
    refine wp_region_held_drew (S:=fun D=>True) (by kernel_rfl) (trivial) (fun c=> ?_);refine hp 0 ?_;refine hp 1 ?_;refine hp 2 ?_;refine hp 3 ?_;refine hp 4 ?_;refine hn 5 ?_;refine hn 6 ?_;refine hn 7 ?_;refine hn 8 ?_;refine hn 9 ?_;refine hn 10 ?_;refine hn 11 ?_;refine hn 12 ?_;refine hp 13 ?_;refine hp 14 ?_;refine hp 15 ?_;refine wpAnyH_done (by kernel_rfl) ?_ _;clear c;go_wp2_with fail;go_ret2;exact⟨⟨f,rfl,⟨by have:=G.out;omega,C.out.1,C.out.2⟩⟩,r.drew⟩
theorem mp:(prog.info? 130).map (fun i=>(i.zero,i.size,i.bytes))=some (some (.agg (ag.cells ⟨0,0,0⟩).toArray),3,24):=by kernel_rfl
theorem uX (i o:Nat) (l:List ag) (v:ag) (w:World) (h:w.ownsRow 0 130 3 (.slice none 0 0) 0 (ar l)) (p:ac w i v.cells 130):
  Calls prog 167 #[.slice none 0 0, .int .i64 0, .slice (some ⟨i,0,none⟩) 1 o] w fun e q=>(∃c,e= .returned c∧q.ownsRow 0 130 3 c (0+1) (ar (l++[v]))∧dW w (.slice none 0 0:Value).ownBlock c.ownBlock)∧w.grownBy q (.slice none 0 0:Value).ownBlock:=by
 obtain⟨x,t,j,k,m⟩:=info_parts mp;have s:=hid p;have r:=hid h;have f:=hid (show 0+1≤maxLen from by unfold maxLen;omega);have g:=hid (show(0+1)*24≤140737488355328 from by omega);clear h p;go_enter func167,ntmps167
 go_wp2_with (first
  |(at_builtin;refine ii (n:=0) (xs:=ar l) (w:=w) _ _ 209 rfl rfl x (.agg (ag.cells ⟨0,0,0⟩).toArray) 24 underlying209 t j k m rfl (by decide) rfl r.out ⟨i,0,none⟩ 1 o v.cells rfl rfl (bI s.out) (by intro u hu;simp[ag.cells]at hu;rcases hu with rfl|rfl|rfl<;>rfl) f.out g.out (Nat.zero_le _) ?_;intro y z d a b)
  |fail)
 all_goals(go_ret;exact⟨⟨y,rfl,by rw[ge];exact d,b⟩,a⟩)
theorem tj (g k q n c:Nat) (l:List ag) (v:ag) (w:World) (h:w.ownsRow 0 130 3 (.slice (some ⟨g,0,none⟩) n c) n (ar l)) (A:(n:Int)≤1048576) (y:(n:Int)≤(c:Int)) (r:ac w k v.cells 130):
  Calls prog 167 #[.slice (some ⟨g,0,none⟩) n c, .int .i64 (n:Int), .slice (some ⟨k,0,none⟩) 1 q] w fun e s=>(∃d,e= .returned d∧s.ownsRow 0 130 3 d (n+1) (ar (l++[v]))∧dW w (.slice (some ⟨g,0,none⟩) n c:Value).ownBlock d.ownBlock)∧w.grownBy s (.slice (some ⟨g,0,none⟩) n c:Value).ownBlock:=by
 obtain⟨B,z,m,o,p⟩:=info_parts mp;have x:=hid r;have t:=hid h;have i:=hid (show n+1≤maxLen from by unfold maxLen;omega);have j:=hid (show(n+1)*24≤140737488355328 from by omega);clear h r;go_enter func167,ntmps167
 go_wp2_with (first
  |(at_builtin;refine ii (n:=n) (xs:=ar l) (w:=w) _ _ 209 rfl rfl B (.agg (ag.cells ⟨0,0,0⟩).toArray) 24 underlying209 z m o p rfl (by decide) rfl t.out ⟨k,0,none⟩ 1 q v.cells rfl rfl (bI x.out) (by intro u hu;simp[ag.cells]at hu;rcases hu with rfl|rfl|rfl<;>rfl) i.out j.out (Nat.zero_le _) ?_;intro C D f a b)
  |fail)
 all_goals(go_ret;exact⟨⟨C,rfl,by rw[ge];exact f,b⟩,a⟩)
theorem nR (b c n:Nat) (xv:Value) (l:List ag) (v:ag) (w:World) (h:w.ownsRow 0 130 3 xv n (ar l)) (hn:n≤1048576) (f:ac w b v.cells 130):
  Calls prog 167 #[xv, .int .i64 (n:Int), .slice (some ⟨b,0,none⟩) 1 c] w fun e i=>(∃a,e= .returned a∧i.ownsRow 0 130 3 a (n+1) (ar (l++[v]))∧dW w xv.ownBlock a.ownBlock)∧w.grownBy i xv.ownBlock:=by
 have d:=h
 rcases h.2 with⟨rfl,rfl⟩|⟨g,cap,cur,rfl,_,_,hc,_⟩
 ·exact uX b c l v w d f
 ·exact tj g b c n cap l v w d (by omega) (by omega) f
theorem pS {w:World} {a size n:Nat} {e:TypeId} {v:Value} {xs:List Value} (h:w.ownsRow a e size v n xs) {k:Nat} (b:v.ownBlock=some k):∃cs c,w.heap[k]?=some (.cells cs e c):=by
 rcases h.2 with⟨rfl,_⟩|⟨g,cap,cur,rfl,_,hg,_⟩
 ·cases b
 ·injection b with b;subst b;exact⟨_,_,hg⟩
theorem mS {v:ag}:(prog.info? 130).map (·.size)=some ([.int .i64 v.lba, .int .i64 v.epoch, .int .i64 v.slot]:List Value).length:=by kernel_rfl
theorem xC (v:ag) (w:World):
  Calls prog 165 #[.slice none 0 0, .agg v.cells.toArray, .func (.func 166) #[] #[]] w fun e w'=>e= .returned (.tuple #[.int .i64 0, .bool false])∧Below w.heap.size w w':=by
 go_enter func165,ntmps165
 go_wp2_with (first
  |((with_reducible refine ae 130 (.tmp 1) v.cells (some 4) ?hgd ?ho ?hd ?hx ?_);(case hgd|ho|hd|hx=>rfl);(intro k i f g d j))
  |fail)
 have b:=hid (d.mono f);clear g d j f;go_loopw [9,10] (fun h c wr=>h= .int .i64 0∧c= .int .i64 0∧wr=i) (fun _ _ _=>0)
 case atStart=>exact⟨rfl,rfl,rfl⟩
 case round=>
  obtain⟨rfl,rfl,rfl⟩:=hrel;go_wp2_with fail;refine wp_region_held_drew (S:=fun l=>True) (by kernel_rfl) (trivial) (fun a=> ?_);refine hp 0 ?_;refine hp 1 ?_;refine hp 2 ?_;refine hp 3 ?_;refine hp 4 ?_;refine hn 5 ?_;refine hn 6 ?_;refine hn 7 ?_;refine hn 8 ?_;refine hn 9 ?_;refine hn 10 ?_;refine hn 11 ?_;refine hn 12 ?_;refine hp 13 ?_;refine hp 14 ?_;refine hp 15 ?_;refine wpAnyH_done (by kernel_rfl) ?_ _;clear a;go_wp2_with fail;go_ret2;exact⟨rfl,b.drew⟩
theorem rz (n:Nat) (xv:Value) (l:List ag) (v:ag) (w:World) (h:w.ownsRow 0 130 3 xv n (ar l)) (hn:l.length=n) (hb:n≤1048576)
  (d:∀(i j:Nat) (a b:ag),l[i]?=some a→l[j]?=some b→i≤j→cL b v<0→cL a v<0) (k:∀(t:Nat) (x:ag),l[t]?=some x→cL x v≠0):
  Calls prog 165 #[xv, .agg v.cells.toArray, .func (.func 166) #[] #[]] w fun e w'=>(∃i:Nat,e= .returned (.tuple #[.int .i64 (i:Int), .bool false])∧jC l v i)∧Below w.heap.size w w':=by
 by_cases r:0<n
 ·obtain⟨g,f,z,rfl,hc,s,u⟩:=ba h r
  exact pp g f n l z v w u hn hb d k
 ·obtain rfl:n=0:=by omega
  have hl:l=[]:=List.eq_nil_of_length_eq_zero hn;subst hl
  rcases h.2 with⟨rfl,_⟩|⟨g,f,cur,rfl,_,_,_⟩
  ·exact(xC v w).mono fun e w' q=>⟨⟨0,q.1,⟨Nat.le_refl _,fun t x o=>by simp at o,fun t x o=>by simp at o⟩⟩,q.2⟩
  ·obtain⟨p,c,z,m⟩:∃(p c:Nat) (z:List Value),ac w g (ar []++z) 130:=⟨0,0,cur.toList,by simp[ar,ac];assumption⟩
   exact pp g f 0 [] z v w m rfl hb d k
theorem Is (L n:Nat) (xv:Value) (l:List ag) (v:ag) (w:World) (hX:ac w L [.bool true,xv] 238) (hR:w.ownsRow 0 130 3 xv n (ar l)) (hl:l.length=n) (hn:n≤1048575) (hv:y7 v) (a0:∀(t:Nat) (x:ag),l[t]?=some x→cL x v<0):
  Calls prog 79 #[.pointer (some ⟨L,0,none⟩), .agg v.cells.toArray] w fun e w'=>(e= .returned (.int .i64 0)∧∃aA,ac w' L [.bool true,aA] 238∧w'.ownsRow 0 130 3 aA (n+1) (ar (l++[v]))∧∀k,aA.ownBlock=some k→xv.ownBlock=some k∨w.heap.size≤k)∧af (L::xv.ownBlock.toList) w w':=by
 obtain⟨p,c,cl⟩:=az hR
 have bk:=hid (fun(i:Nat) (h:jC l v i)=>show i=n from by
  have C:=h.le
  rcases Nat.lt_or_ge i l.length with m|m
  ·have h3:=h.behind i _ (List.getElem?_eq_getElem m) (Nat.le_refl _)
   have h4:=a0 i _ (List.getElem?_eq_getElem m);omega
  ·omega)
 have b8:=hid (fun(wx:World) (h:wx.ownsRow 0 130 3 xv n (ar l))=>rz n xv l v wx h hl (by omega) (fun i j a b ha _ _ _=>a0 i a ha) (fun t x hx=>by have:=a0 t x hx;omega));have bl:=hid (fun(wx:World) (g1:Nat) (h:wx.ownsRow 0 130 3 xv n (ar l)) (hr:ac wx g1 v.cells 130)=>nR g1 1 n xv l v wx h (by omega) hr);have HV:=hid hv;have bt:=hid hX;have cc:=hid hR;have b9:=hid (fun k (N:xv.ownBlock=some k)=>(hR.lt k N).2)
 have bn:=hid (show some L≠xv.ownBlock from by
  intro e
  obtain⟨cs,fz,C⟩:∃cs fz,w.heap[L]?=some (.cells cs 130 fz):=by
   rcases hR.2 with⟨rfl,_⟩|⟨g,cap,cur,rfl,_,hg,_⟩
   ·cases e
   ·injection e with e;subst e;exact⟨_,_,hg⟩
  have m:=hX;unfold ac at m;rw[C]at m
  injection m with m
  injection m with _ m
  exact absurd m (by decide))
 subst cl;clear hX hR hl hn hv a0;go_enter func79,ntmps79
 go_wp2_with (first
  |((with_reducible refine ae 130 (.tmp 1) v.cells (some 3) ?hgd ?ho ?hd ?hx ?_);(case hgd|ho|hd|hx=>rfl);(intro b1 w1 l1 B1 e1 z1))
  |fail)
 have a7:=hid B1;have a1:=hid (e1.mono l1);have a9:=hid (bt.below (e1.mono l1) bt.lt);have ca:=hid (own_below (e1.mono l1) cc.out);have bm:=hid (show some b1≠(Value.slice p n c).ownBlock from fun e=>by have:=b9.out b1 e.symm;omega);clear B1 e1 z1 l1
 refine(jp L _ _ a9.out).mono ?_
 rintro e w' ⟨rfl,rfl⟩
 go_wp2_with (first
  |((with_reducible refine aj 130 (.tmp 3) b1 v.cells 130 _ a7.out underlying130 rfl aM ?hgd ?ho ?hx ?_);(case hgd|ho|hx=>rfl))
  |fail)
 refine(vY v _ HV.out).mono ?_
 rintro e w2 ⟨rfl,ad⟩;have b7:=hid (show ac w2 b1 ([.int .i64 v.lba, .int .i64 v.epoch, .int .i64 v.slot]) 130 from a7.below ad a7.lt);have be:=hid (a1.trans (ad.mono a1.size));have ce:=hid (a9.below ad a9.lt);have cb:=hid (own_below ad ca.out);clear ad;have Y:=ce;have U:=b7;have bo:=cb;have Q:=be;go_upto_region 5 with fail;refine wp_region_held_drew (S:=fun wx=>wx.cell? ⟨L,1,none⟩=some (.slice p n c)∧wx.rangeAt b1 0 ([.int .i64 v.lba, .int .i64 v.epoch, .int .i64 v.slot])) (by kernel_rfl) (⟨Y.drew.cell (i:=1) rfl,U.drew.range⟩) (fun f=> ?_);obtain⟨wd,F⟩:∃wd,wd=w2.drew:=⟨_,rfl⟩;have u:Below w2.heap.size w2 wd:=by rw[F];exact(Below.refl _ _).drew
 have a5:=hid (Y.below u Y.lt);have a2:=hid (U.below u U.lt);have a3:=hid (own_below u bo.out);have R:=hid (Q.trans (u.mono Q.size));rw[←F];rw[←F]at f;clear F u;refine hp 0 ?_;refine hp 1 ?_;refine hp 2 ?_;refine hp 3 ?_;refine wpAnyH_take (i:=4) (v:= .agg ([.int .i64 v.lba, .int .i64 v.epoch, .int .i64 v.slot]).toArray) rfl (by kernel_rfl) (by kernel_rfl) (by kernel_rfl) (fun _ _ _ h=>h) (yieldsIf_load_mid (by rfl) 130 (.tmp 3) rfl b1 0 rfl ([.int .i64 v.lba, .int .i64 v.epoch, .int .i64 v.slot]) _ (fun w h=>h.2) underlying130 rfl mS) (by assumption) ?_
 (try go_frame)
 refine wpAnyH_ready (rs:=[5]) (by kernel_rfl) (by simp) ?_;refine AllReadyH.cons rfl (fun K q=> ?_) AllReadyH.nil;go_simp
 refine(b8.out _ a3.out).mono ?_
 rintro e we ⟨⟨at_,rfl,bx⟩,an⟩;have Z:=hid (a5.below an a5.lt);have O:=hid (a2.below an a2.lt);have bs:=hid (own_below an a3.out);have T:=hid (R.trans (an.mono R.size));obtain rfl:n=at_:=(bk.out at_ bx).symm;clear an bx
 (try go_wp2_with fail)
 refine q.out _ _ (⟨Z.cell (i:=1) rfl,O.range⟩) (fun d=> ?_);clear q K f;have f:=d;clear d
 (try go_frame)
 refine hp 6 ?_;refine hp 7 ?_;refine hp 8 ?_;refine hp 9 ?_;refine hp 10 ?_;refine wpAnyH_done (by kernel_rfl) ?_ _;clear f;go_upto_region 8 with fail;refine wp_region_held_drew (S:=fun wx=>wx.rangeAt b1 0 ([.int .i64 v.lba, .int .i64 v.epoch, .int .i64 v.slot])) (by kernel_rfl) (O.drew.range) (fun f=> ?_);obtain⟨wf,F⟩:∃wd,wd=we.drew:=⟨_,rfl⟩;have u:Below we.heap.size we wf:=by rw[F];exact(Below.refl _ _).drew
 have J:=hid (Z.below u Z.lt);have H:=hid (O.below u O.lt);have a4:=hid (own_below u bs.out);have D:=hid (T.trans (u.mono T.size));rw[←F];rw[←F]at f;clear F u;refine hp 0 ?_;refine hp 1 ?_;refine hp 2 ?_;refine hp 3 ?_;refine hp 5 ?_;refine wpAnyH_take (i:=6) (v:= .agg ([.int .i64 v.lba, .int .i64 v.epoch, .int .i64 v.slot]).toArray) rfl (by kernel_rfl) (by kernel_rfl) (by kernel_rfl) (fun _ _ _ h=>h) (yieldsIf_load_mid (by rfl) 130 (.tmp 3) rfl b1 0 rfl ([.int .i64 v.lba, .int .i64 v.epoch, .int .i64 v.slot]) _ (fun w h=>h) underlying130 rfl mS) (by assumption) ?_
 (try go_frame)
 refine wpAnyH_ready (rs:=[4,7]) (by kernel_rfl) (by simp) ?_;refine AllReadyH.cons rfl (fun K q=> ?_) (AllReadyH.cons rfl (fun K q=> ?_) AllReadyH.nil)
 ·have c1:=J.cell (i:=1) rfl
  go_simp;clear c1;refine q.out _ _ (H.range) (fun d=> ?_);clear q K f;have f:=d;clear d
  (try go_frame)
  refine wpAnyH_ready (rs:=[7]) (by kernel_rfl) (by simp) ?_;refine AllReadyH.cons rfl (fun K q=> ?_) AllReadyH.nil;go_simp;obtain⟨wg,G⟩:∃wg,wg=wf.alloc (Obj.cells #[.int .i64 v.lba, .int .i64 v.epoch, .int .i64 v.slot] 130):=⟨_,rfl⟩;rw[←G];have y:Below wf.heap.size wf wg:=by rw[G];exact(Below.refl _ _).alloc (Nat.le_refl _) _
  have W:=hid (show ac wg wf.heap.size v.cells 130 from by rw[G];exact ac.new wf _ _);have P:=hid (J.below y J.lt);have B:=hid (H.below y H.lt);have X:=hid (own_below y a4.out);have r:=hid (D.trans (y.mono D.size));clear G y
  (try go_wp2_with fail)
  refine q.out _ _ (B.range) (fun d=> ?_);clear q K f;have f:=d;clear d
  (try go_frame)
  refine wpAnyH_ready (rs:=[8]) (by kernel_rfl) (by simp) ?_;refine AllReadyH.cons rfl (fun K q=> ?_) AllReadyH.nil;go_simp
  refine(bl.out _ _ X.out W.out).mono ?_
  rintro e wh ⟨⟨aA,rfl,A,z⟩,E⟩;have o:=hid (P.grown E bn.out);have s:=hid (B.grown E bm.out);obtain⟨p',c',bb⟩:=az A;subst bb;have I:=hid A;have M:=hid z;have a8:=hid E;clear A z E
  (try go_wp2_with fail)
  refine q.out _ _ (s.range) (fun d=> ?_);clear q K f;have f:=d;clear d
  (try go_frame)
  refine hp 9 ?_;refine hp 10 ?_;have c9:=o.cell (i:=1) rfl;have f9:=o.free 1;refine wpAnyH_ready (rs:=[11]) (by kernel_rfl) (by simp) ?_;refine AllReadyH.cons rfl (fun K q=> ?_) AllReadyH.nil;go_simp;have V:=hid (s.set_other (a:=⟨L,1,none⟩) (by have C:=s.out;have m:=o.out;intro e;subst e;unfold ac at C m;rw[C]at m;injection m with m;injection m with _ m;exact absurd m (by decide)) (.slice p' (n+1) c'));refine q.out _ _ V.range (fun d=> ?_);clear q K f d
  (try go_frame)
  refine wpAnyH_done (by kernel_rfl) ?_ _;clear c9 f9;go_wp2_with fail;go_ret;have bd:=r.size;refine⟨⟨rfl, .slice p' (n+1) c',(o.set 1 _).ext rfl,ay I.out ((af.refl [L] _).setCell (.inl (by simp)) 1 _) (fun k N=> ?_),fun k N=> ?_⟩, ?_⟩
  ·intro hm
   simp at hm;subst hm;obtain⟨cs,fz,C⟩:=pS I.out N;have m:=o.out;unfold ac at m;rw[C]at m
   injection m with m
   injection m with _ m
   exact absurd m (by decide)
  ·rcases M.out with C|C
   ·exact .inl (C ▸ N)
   ·exact .inr (Nat.le_trans bd (C k N))
  ·have t1:af (L::(Value.slice p n c).ownBlock.toList) w wg:=af.of_below r.out (Nat.le_refl _)
   have t2:af (L::(Value.slice p n c).ownBlock.toList) wg wh:=af.of_grown a8.out (fun k N=>by rw[N];simp)
   exact(t1.trans t2).trans ((af.refl _ _).setCell (.inl (by simp)) 1 _)
 ·go_simp
  obtain⟨wg,G⟩:∃wg,wg=wf.alloc (Obj.cells #[.int .i64 v.lba, .int .i64 v.epoch, .int .i64 v.slot] 130):=⟨_,rfl⟩;rw[←G];have y:Below wf.heap.size wf wg:=by rw[G];exact(Below.refl _ _).alloc (Nat.le_refl _) _
  have W:=hid (show ac wg wf.heap.size v.cells 130 from by rw[G];exact ac.new wf _ _);have P:=hid (J.below y J.lt);have B:=hid (H.below y H.lt);have X:=hid (own_below y a4.out);have r:=hid (D.trans (y.mono D.size));clear G y
  (try go_wp2_with fail)
  refine q.out _ _ (B.range) (fun d=> ?_);clear q K f;have f:=d;clear d
  (try go_frame)
  refine wpAnyH_ready (rs:=[4]) (by kernel_rfl) (by simp) ?_;refine AllReadyH.cons rfl (fun K q=> ?_) AllReadyH.nil;have c1:=P.cell (i:=1) rfl;go_simp;clear c1;refine q.out _ _ (B.range) (fun d=> ?_);clear q K f;have f:=d;clear d
  (try go_frame)
  refine wpAnyH_ready (rs:=[8]) (by kernel_rfl) (by simp) ?_;refine AllReadyH.cons rfl (fun K q=> ?_) AllReadyH.nil;go_simp
  refine(bl.out _ _ X.out W.out).mono ?_
  rintro e wh ⟨⟨aA,rfl,A,z⟩,E⟩;have o:=hid (P.grown E bn.out);have s:=hid (B.grown E bm.out);obtain⟨p',c',bb⟩:=az A;subst bb;have I:=hid A;have M:=hid z;have a8:=hid E;clear A z E
  (try go_wp2_with fail)
  refine q.out _ _ (s.range) (fun d=> ?_);clear q K f;have f:=d;clear d
  (try go_frame)
  refine hp 9 ?_;refine hp 10 ?_;have c9:=o.cell (i:=1) rfl;have f9:=o.free 1;refine wpAnyH_ready (rs:=[11]) (by kernel_rfl) (by simp) ?_;refine AllReadyH.cons rfl (fun K q=> ?_) AllReadyH.nil;go_simp;have V:=hid (s.set_other (a:=⟨L,1,none⟩) (by have C:=s.out;have m:=o.out;intro e;subst e;unfold ac at C m;rw[C]at m;injection m with m;injection m with _ m;exact absurd m (by decide)) (.slice p' (n+1) c'));refine q.out _ _ V.range (fun d=> ?_);clear q K f d
  (try go_frame)
  refine wpAnyH_done (by kernel_rfl) ?_ _;clear c9 f9;go_wp2_with fail;go_ret;have bd:=r.size;refine⟨⟨rfl, .slice p' (n+1) c',(o.set 1 _).ext rfl,ay I.out ((af.refl [L] _).setCell (.inl (by simp)) 1 _) (fun k N=> ?_),fun k N=> ?_⟩, ?_⟩
  ·intro hm
   simp at hm;subst hm;obtain⟨cs,fz,C⟩:=pS I.out N;have m:=o.out;unfold ac at m;rw[C]at m
   injection m with m
   injection m with _ m
   exact absurd m (by decide)
  ·rcases M.out with C|C
   ·exact .inl (C ▸ N)
   ·exact .inr (Nat.le_trans bd (C k N))
  ·have t1:af (L::(Value.slice p n c).ownBlock.toList) w wg:=af.of_below r.out (Nat.le_refl _)
   have t2:af (L::(Value.slice p n c).ownBlock.toList) wg wh:=af.of_grown a8.out (fun k N=>by rw[N];simp)
   exact(t1.trans t2).trans ((af.refl _ _).setCell (.inl (by simp)) 1 _)
theorem aP (i:ap) (v:ai) (w:World) (h:al w i v):
  Calls prog 32 #[.pointer (some ⟨i.vb,0,none⟩)] w fun e w'=>e= .returned (.bool true)∧w=w':=
 vT i.vb i.jb i.bb v.key v.data (.pointer (some ⟨i.xb,0,none⟩)) i.sv (.pointer (some ⟨i.cb,0,none⟩)) i.rv w h.vol
theorem A5 (i:ap) (v:ai) (w:World) (h:al w i v):
  Calls prog 127 #[.pointer (some ⟨i.vb,0,none⟩)] w fun e w'=>e= .returned v.last.v∧Below w.heap.size w w':=by
 have u:=hid h;obtain⟨⟨l,f,c,b,⟨blocks,d,first⟩⟩,hl⟩:∃s,v.last=s:=⟨_,rfl⟩;have x:=hid hl;rw[hl];clear h hl;go_enter func127,ntmps127
 go_wp2_with (first
  |((with_reducible refine ab 163 _ cX (some 2) ?hgd ?ho ?hd ?_);(case hgd|ho|hd=>rfl);(intro y B p q r C))
  |fail)
 have j:=hid q;have o:=hid p;have a:=hid (r.mono p);have m:=hid (u.below a.out);clear q r C p
 refine(aP i v _ m.out).mono ?_
 rintro e w' ⟨rfl,rfl⟩;have z:B.cell? ⟨i.vb,0,none⟩=some (.pointer (some ⟨i.jb,0,none⟩)):=m.vol.cell (i:=0) rfl;go_wp2_with fail
 refine(fW i.jb i.db (.pointer (some ⟨i.sb,0,none⟩)) l f c b blocks d first _ (by rw[←x.out];exact m.jour)).mono ?_
 rintro e D ⟨rfl,g⟩;have n:=hid (j.below g j.lt);have k:=hid (a.trans (g.mono a.size));clear g z
 go_wp2_with (first
  |((with_reducible refine aa 163 (.tmp 2) (.tmp 11) y aF.zero.cells (aF.cells ⟨l,f,c,b,⟨blocks,d,first⟩⟩) 163 n.out rfl aQ (cJ _) ?hgd ?ho ?hx ?hy ?_);(case hgd|ho|hx|hy=>rfl);(intro E t A))
  |fail)
 (try simp only[Exit.inBlock,Exit.then]);refine bodyPost_ret (aY rfl _ _ t.range rfl underlying163 rfl aQ) rfl ⟨rfl,A.below k.out o.out⟩
theorem iL (i:ap) (v:ai) (w:World) (h:al w i v):
  Calls prog 49 #[.pointer (some ⟨i.vb,0,none⟩)] w fun e w'=>e= .returned v.last.geo.v∧Below w.heap.size w w':=by
 have H:∀(a b c d e f g:Int) (w:World),Sem.run prog (Instr.field 163 (.agg #[.int .i64 a, .int .i64 b, .int .i64 c, .int .i64 d, .int .i64 e, .int .i64 f, .int .i64 g]) 4) w= .ok (.agg #[.int .i64 e, .int .i64 f, .int .i64 g]) w:=fun _ _ _ _ _ _ _ _=>by kernel_rfl
 have F:=hid h;have r:=hid (fun(l:World) (hx:al l i v)=>A5 i v l hx);obtain⟨⟨z,t,n,m,⟨blocks,k,first⟩⟩,hl⟩:∃s,v.last=s:=⟨_,rfl⟩;rw[hl];have y:=hid (fun(l:World) (hx:al l i v)=>show Calls prog 127 #[.pointer (some ⟨i.vb,0,none⟩)] l fun e w'=>e= .returned (.agg #[.int .i64 z, .int .i64 t, .int .i64 n, .int .i64 m, .int .i64 blocks, .int .i64 k, .int .i64 first])∧Below l.heap.size l w' from by have:=r.out l hx;rw[hl]at this;exact this);clear h hl r;go_enter func49,ntmps49
 go_wp2_with (first
  |((with_reducible refine ab 23 _ uJ (some 2) ?hgd ?ho ?hd ?_);(case hgd|ho|hd=>rfl);(intro G K A B D J))
  |fail)
 have p:=hid B;have x:=hid A;have j:=hid (D.mono A);have C:=hid (F.below j.out);clear B D J A
 refine(aP i v _ C.out).mono ?_
 rintro e w' ⟨rfl,rfl⟩;go_wp2_with fail
 refine(y.out _ C.out).mono ?_
 rintro e L ⟨rfl,o⟩;have u:=hid (p.below o p.lt);have q:=hid (j.trans (o.mono j.size));clear o
 go_wp2_with (first
  |((with_reducible refine aa 23 (.tmp 2) (.tmp 9) G aH.zero.cells (aH.cells ⟨blocks,k,first⟩) 23 u.out rfl bG (vJ _) ?hgd ?ho ?hx ?hy ?_);(case hgd|ho|hx|hy=>rfl);(intro M E I))
  |fail)
 (try simp only[Exit.inBlock,Exit.then]);refine bodyPost_ret (aY rfl _ _ E.range rfl underlying23 rfl bG) rfl ⟨rfl,I.below q.out x.out⟩
theorem nz (i:ap) (v:ai) (lba:Int) (w:World) (h:al w i v) (p:0≤lba) (n:lba<v.last.geo.lbas):
  Calls prog 56 #[.pointer (some ⟨i.vb,0,none⟩), .int .i64 lba] w fun e w'=>e= .returned (.int .i64 0)∧Below w.heap.size w w':=by
 have o:∀(a b c:Int) (w:World),Sem.run prog (Instr.field 23 (.agg #[.int .i64 a, .int .i64 b, .int .i64 c]) 1) w= .ok (.int .i64 b) w:=fun _ _ _ _=>by kernel_rfl
 have f:=hid (fun(d:World) (m:al d i v)=>iL i v d m);obtain⟨⟨blocks,j,first⟩,hl⟩:∃s,v.last.geo=s:=⟨_,rfl⟩;rw[hl]at n;have l:=hid (fun(d:World) (m:al d i v)=>show Calls prog 49 #[.pointer (some ⟨i.vb,0,none⟩)] d fun e w'=>e= .returned (.agg #[.int .i64 blocks, .int .i64 j, .int .i64 first])∧Below d.heap.size d w' from by have:=f.out d m;rw[hl]at this;exact this);simp only at n;clear hl f;go_enter func56,ntmps56;go_wp2_with fail
 refine(aP i v _ h).mono ?_
 rintro e w' ⟨rfl,rfl⟩;go_wp2_with fail
 refine(l.out _ h).mono ?_
 rintro e q ⟨rfl,g⟩;have k:=hid g;clear g;go_wp2_with fail;go_ret;exact⟨rfl,k.out⟩
theorem tu (e u lba:Int) (c:ByteArray):prog.built 134 [(0, .int .i64 e),(1, .int .i64 u),(2, .int .i64 lba),(4, .string c)]=some (ak.cells ⟨e,u,lba,false,c⟩).toArray:=by kernel_rfl
theorem oI (lba e u:Int):prog.built 130 [(0, .int .i64 lba),(1, .int .i64 e),(2, .int .i64 u)]=some (ag.cells ⟨lba,e,u⟩).toArray:=by kernel_rfl
def dP (v:ai) (lba:Int) (block:ByteArray) (cv:Value):ai:={v with used:=v.used+1,d:={v.d with cv:=cv,cs:=v.d.cs++[(4+v.used,block)]},vers:=v.vers++[⟨lba,v.epoch,v.used⟩]}
theorem tA (i:ap) (v:ai) (lba:Int) (s:ByteArray) (w:World) (h:al w i v) (P:bp v) (hu:v.used<v.last.geo.blocks-5) (l0:0≤lba) (l1:lba<v.last.geo.lbas) (hs:s.size≤4000) (hd:v.data.size=16) (e0:0≤v.epoch) (e1:v.epoch≤4294967295) (N:v.vers.length≤1048575)
  (K:∀(t:Nat) (x:ag),v.vers[t]?=some x→cL x ⟨lba,v.epoch,v.used⟩<0):
  Calls prog 24 #[.pointer (some ⟨i.vb,0,none⟩), .int .i64 lba, .string s] w fun e Q=>e= .returned (.int .i64 0)∧∃(cv xv:Value) (b a:ByteArray),ah b (dO s.data.toList (dZ v.data.data.toList v.epoch.toNat v.used.toNat s.size))∧ah a (cellL ⟨v.epoch,v.used,lba,false,b⟩)∧bh ⟨v.epoch,v.used,lba,false,b⟩∧aJ w Q i v {i with xv:=xv} (dP v lba a cv):=by
 have bv:(s.size:Int)≤4000:=by omega
 obtain⟨j,J⟩:∃j:Nat,v.epoch=(j:Int):=⟨v.epoch.toNat,by omega⟩;obtain⟨k,E⟩:∃k:Nat,v.used=(k:Int):=⟨v.used.toNat,by have:=P.u0;omega⟩;have hr:bX v.last.geo v.used≠0:=by unfold bX;omega
 have an:(bX v.last.geo v.used==0)=false:=beq_eq_false_iff_ne.2 hr;obtain⟨rm,D⟩:∃rm,bX v.last.geo v.used=rm:=⟨_,rfl⟩;rw[D]at an;have V:=hid (fun(p:World) (O:al p i v)=>show Calls prog 74 #[.pointer (some ⟨i.jb,0,none⟩)] p fun e Q=>e= .returned (.int .i64 rm)∧Below p.heap.size p Q from by have:=jT i v p O P;rw[D]at this;exact this);have Y:=hid (fun(p:World) (O:al p i v)=>show Calls prog 75 #[.pointer (some ⟨i.jb,0,none⟩)] p fun e Q=>e= .returned (.int .i64 (k:Int))∧p=Q from by have:=oz i v p O P;rw[E]at this;exact this);have c:=hid J;have f:=hid E;have g:=hid (And.intro l0 l1);have m:=hid P;have y:=hid hu;have HD:=hid hd;have HE:=hid (And.intro e0 e1);have HS:=hid hs;have U:=hid K;have Z:=hid N;have H0:=hid h;clear hr D J E P hu l0 l1 hd e0 e1 hs K N h;go_enter func24,ntmps24;go_wp2_with fail
 refine(nz i v lba _ H0.out g.out.1 g.out.2).mono ?_
 rintro e w1 ⟨rfl,z⟩;have q:=hid z;have S:=hid (H0.below z);clear z;have I:w1.cell? ⟨i.vb,0,none⟩=some (.pointer (some ⟨i.jb,0,none⟩)):=S.vol.cell (i:=0) rfl;go_wp2_with fail
 refine(V.out _ S.out).mono ?_
 rintro e w2 ⟨rfl,A⟩;have F:=hid (q.trans (A.mono q.size));have R:=hid (S.below A);clear A I;go_upto_region 8 with fail;have c5:w2.drew.cell? ⟨i.vb,5,none⟩=some (.pointer (some ⟨i.bb,0,none⟩)):=R.vol.drew.cell (i:=5) rfl;have I:w2.drew.cell? ⟨i.vb,0,none⟩=some (.pointer (some ⟨i.jb,0,none⟩)):=R.vol.drew.cell (i:=0) rfl;have T:=hid (R.below (Below.refl _ _).drew);refine aB (by kernel_rfl) (by kernel_rfl) ?_
 iterate 4 still_step
 still_call (eo (aR i.bb i.c2 v.first (j:Int) i.m1 i.m2 i.m3 _ (by rw[←c.out];exact T.book)))
 iterate 4 still_step
 still_call (eo (Y.out _ T.out))
 iterate 2 still_step
 refine wpStill_nil ?_;have r:=hid F.drew;have c2:w2.drew.cell? ⟨i.vb,2,none⟩=some (.string v.data):=R.vol.drew.cell (i:=2) rfl;clear c5 I;go_wp2_with fail
 refine(nw v.data s j k _ HD.out (by have:=c.out;have:=HE.out;omega) (by have:=f.out;have:=y.out;have:=m.sup.geo.b1;omega) (by have:=HS.out;omega)).mono ?_
 rintro e w4 ⟨⟨b,rfl,tc⟩,B⟩;have X:=hid tc;have d:=hid (show bh ⟨(j:Int),(k:Int),lba,false,b⟩from⟨by show(0:Int)≤j;omega,by show(j:Int)≤4294967295;have:=c.out;have:=HE.out;omega,by show(0:Int)≤k;omega,by show(k:Int)≤4294967295;have:=f.out;have:=y.out;have:=m.sup.geo.b1;omega,g.out.1,by show lba≤4095;have:=g.out.2;have:=m.sup.geo.l1;omega,by show b.size≤4000;rw[tc.size,fe];exact HS.out,fun hg=>by cases hg⟩);have u:=hid (r.trans (B.mono r.size));have H4:=hid (T.below B);clear B c2 tc
 go_wp2_with (first
  |((with_reducible refine au 134 ?parts59 (ak.cells ⟨(j:Int),(k:Int),lba,false,b⟩) ?hg ?ho ?hf ?_);(case hg|ho=>rfl);(case hf=>exact tu _ _ _ _))
  |fail)
 refine(pn ⟨(j:Int),(k:Int),lba,false,b⟩ _ d.out rfl).mono ?_
 rintro e w5 ⟨⟨a,rfl,tb⟩,C⟩;have H:=hid tb;have G:=hid (u.trans (C.mono u.size));have H5:=hid (H4.below C);clear C tb;have I:w5.cell? ⟨i.vb,0,none⟩=some (.pointer (some ⟨i.jb,0,none⟩)):=H5.vol.cell (i:=0) rfl;go_wp2_with fail
 refine(mg i v a _ H5.out m.out (by rw[H.size,fm _ d.n]) y.out).mono ?_
 rintro e w6 ⟨rfl,cv,M⟩;have o:=hid (aJ.ahead G.out M);have c3:w6.cell? ⟨i.vb,3,none⟩=some (.pointer (some ⟨i.xb,0,none⟩)):=o.at'.vol.cell (i:=3) rfl;clear M I
 go_wp2_with (first
  |((with_reducible refine au 130 ?parts82 (ag.cells ⟨lba,(j:Int),(k:Int)⟩) ?hg ?ho ?hf ?_);(case hg|ho=>rfl);(case hf=>exact oI _ _ _))
  |fail)
 refine(Is i.xb v.vers.length i.xv v.vers ⟨lba,(j:Int),(k:Int)⟩ _ o.at'.index o.at'.vers rfl Z.out ⟨g.out.1,by show lba≤4095;have:=g.out.2;have:=m.sup.geo.l1;omega,d.e0,d.e1,d.s0,d.s1⟩ (fun t x O=>by have:=U.out t x O;rw[c.out,f.out]at this;exact this)).mono ?_
 rintro e w7 ⟨⟨rfl,xv,hX,hR,hN⟩,L⟩;have W:=hid (o.trans (o.at'.idx (xv:=xv) (l:=v.vers++[⟨lba,(j:Int),(k:Int)⟩]) L hX (by rw[List.length_append];exact hR) hN));clear hX hR hN L c3;go_wp2_with fail;go_ret;refine⟨rfl,cv,xv,b,a, ?_, ?_, ?_, ?_⟩
 ·rw[c.out,f.out];exact X.out
 ·rw[c.out,f.out];exact H.out
 ·rw[c.out,f.out];exact d.out
 ·have:=W.out
  unfold dP;rw[←f.out,←c.out]at this;exact this
theorem uY (n m:Int) (w:World) (a:0≤n) (b:¬n≤m):
  Calls prog 233 #[.int .i64 n, .int .i64 m] w fun e w'=>e= .returned (.bool false)∧w=w':=by
 go_enter func233,ntmps233;go_wp2_with fail;go_ret
 first|exact⟨rfl,rfl⟩|exact⟨dX (by simp;omega),rfl⟩|exact⟨dX (by simp),rfl⟩
structure qR (c:ak):Prop where
 e0:0≤c.epoch
 e1:c.epoch≤4294967295
 s0:0≤c.slot
 s1:c.slot≤4294967295
 l0:0≤c.lba
 n:c.cipher.size≤4096
theorem JH {c:ak} (h:qR c) (hn:¬bh c):¬c.lba≤4095∨(c.lba≤4095∧¬c.cipher.size≤4000)∨(c.lba≤4095∧c.cipher.size≤4000∧c.gone=true∧c.cipher≠⟨#[]⟩):=by
 by_cases a:c.lba≤4095
 ·by_cases b:c.cipher.size≤4000
  ·refine .inr (.inr ⟨a,b, ?_⟩)
   cases hg:c.gone with
   |false=>exact absurd ⟨h.e0,h.e1,h.s0,h.s1,h.l0,a,b,fun e=>by rw[hg]at e;cases e⟩ hn
   |true=>exact⟨rfl,fun e=>hn ⟨h.e0,h.e1,h.s0,h.s1,h.l0,a,b,fun _=>e⟩⟩
  ·exact .inr (.inl ⟨a,b⟩)
 ·exact .inl a
theorem sx (c:ak) (w:World) (hc:qR c) (d:¬bh c):
  Calls prog 157 #[.agg c.cells.toArray] w fun e w'=>e= .returned (.int .i64 2)∧Below w.heap.size w w':=by
 have f:=hid (JH hc d);have a:=hid hc;clear hc d;go_enter func157,ntmps157
 go_wp2_with (first
  |((with_reducible refine ae 134 (.tmp 0) c.cells (some 1) ?hgd ?ho ?hd ?hx ?_);(case hgd|ho|hd|hx=>rfl);(intro n s j b g t;have o:=b.cell (i:=0) rfl;have p:=b.cell (i:=1) rfl;have q:=b.cell (i:=2) rfl;have m:=b.cell (i:=3) rfl;have r:=b.cell (i:=4) rfl))
  |fail)
 refine(dy c.epoch 4294967295 _ a.e0 a.e1).mono ?_
 rintro e w' ⟨rfl,rfl⟩;go_wp2_with fail
 refine(dy c.slot 4294967295 _ a.s0 a.s1).mono ?_
 rintro e w' ⟨rfl,rfl⟩;go_wp2_with fail
 rcases f.out with h1|⟨h1,h2⟩|⟨h1,h2,h3,h4⟩
 ·refine(uY c.lba 4095 _ a.l0 (by omega)).mono ?_
  rintro e w' ⟨rfl,rfl⟩;go_wp2_with fail;go_ret;exact⟨rfl,g.mono j⟩
 ·refine(dy c.lba 4095 _ a.l0 h1).mono ?_
  rintro e w' ⟨rfl,rfl⟩;have h:(4000:Int)<(c.cipher.size:Int):=by omega
  clear h2;go_wp2_with fail;go_ret;exact⟨rfl,g.mono j⟩
 ·refine(dy c.lba 4095 _ a.l0 h1).mono ?_
  rintro e w' ⟨rfl,rfl⟩;have h:(c.cipher.size:Int)≤4000:=by omega
  have l:(c.cipher.toList==([]:List UInt8))=false:=by
   rw[beq_eq_false_iff_ne];intro e
   apply h4
   have k:c.cipher.data.toList=[]:=by rw[←Lib.toList_data];exact e
   have:=ah.of (show ah c.cipher []from k)
   simpa using this
  rw[h3]at m;clear h2 h4;go_wp2_with fail;go_ret;exact⟨rfl,g.mono j⟩
theorem uZ (c:ak) (w:World) (hc:qR c) (b:¬bh c):
  Calls prog 77 #[.agg c.cells.toArray] w fun e w'=>e= .returned (.tuple #[.string ⟨#[]⟩, .int .i64 2])∧Below w.heap.size w w':=by
 have k:=hid hc;have f:=hid b;clear hc b;go_enter func77,ntmps77
 go_wp2_with (first
  |((with_reducible refine ae 134 (.tmp 0) c.cells (some 1) ?hgd ?ho ?hd ?hx ?_);(case hgd|ho|hd|hx=>rfl);(intro l m g h i j))
  |((with_reducible refine aj 134 (.tmp 1) l c.cells 134 _ h underlying134 rfl aX ?hgd ?ho ?hx ?_);(case hgd|ho|hx=>rfl))
  |fail)
 refine(sx c _ k.out f.out).mono ?_
 rintro e n ⟨rfl,a⟩;have d:=hid ((i.mono g).trans (a.mono (Nat.le_trans g (Nat.le_of_lt j))));clear a h i g j;go_wp2_with fail;go_ret2;exact⟨rfl,d.out⟩
end Go.Proofs.YtadooplpfhdhcaaGreat
