/- Climbing in trees of hashes (chapter 15): merkle.climb, Up, Check, where a path is right. A path is held against a root (chapter 15): merkle.Up, Check, where it is right. A place's proof is made (chapter 16): proof.Prove, of any leaves. -/
import Derived.Test.YtadooplpfhdhcaaGreatQ35
import Derived.Test.YtadooplpfhdhcaaGreatQ34
import Derived.Test.YtadooplpfhdhcaaGreatQ11
import Derived.Test.YtadooplpfhdhcaaGreatQ29
import Derived.Test.YtadooplpfhdhcaaGreatQ28
set_option linter.unusedSimpArgs false
set_option linter.unusedVariables false
set_option maxRecDepth 100000
set_option maxHeartbeats 4000000
namespace Go.Proofs.YtadooplpfhdhcaaGreat
open Go Go.RowKit
open Go.Lib (hid)
open Go.Proofs.Tryz
def j9 (w:World) (v:Value) (l:List ByteArray):Prop:=∃p c,v= .slice p l.length c∧l.length≤c∧(0<l.length→∃g o cs t,p=some ⟨g,o,none⟩∧ac w g cs t∧∀(j:Nat) (x:ByteArray),l[j]?=some x→cs[o+j]?=some (.string x))
theorem j9.below {w b:World} {v:Value} {l:List ByteArray} (h:j9 w v l) (hb:Below w.heap.size w b):j9 b v l:=by
 obtain⟨p,c,e,f,i⟩:=h;refine⟨p,c,e,f,fun d=> ?_⟩;obtain⟨g,o,cs,t,j,a,k⟩:=i d;exact⟨g,o,cs,t,j,a.below hb a.lt,k⟩
theorem j9.own {w:World} {a:Nat} {v:Value} {l:List ByteArray} {e:TypeId} (h:w.ownsRow a e 1 v l.length (l.map .string)):j9 w v l:=by
 rcases h.2 with⟨h1,c⟩|⟨g,cap,cur,h1,_,hg,hc,_,_,_⟩
 ·rw[h1]
  exact⟨_,_,by rw[c],by omega,fun m=>by omega⟩
 ·rw[h1]
  refine⟨_,_,rfl,hc,fun c=> ?_⟩;obtain⟨i,d,z,b,_,_,k⟩:=bO (v:=v) h c;rw[h1]at b
  injection b with b _ _
  refine⟨i,0,_,_,b,k,fun j x f=> ?_⟩;rw[Nat.zero_add,List.getElem?_append_left (by have:=(List.getElem?_eq_some_iff.1 f).1;simpa using this),List.getElem?_map,f]
  rfl
theorem AW (w:World):(zeroValue 368).run prog w= .ok (.agg ([.int .i64 0, .int .i64 0, .string ⟨#[]⟩, .string ⟨#[]⟩]:List Value).toArray) w:=by kernel_rfl
theorem mP {a b c d:Value}:(prog.info? 368).map (·.size)=some ([a,b,c,d]:List Value).length:=by kernel_rfl
theorem yj (a b:Int):prog.built 368 [(0, .int .i64 a),(1, .int .i64 b)]=some ([.int .i64 a, .int .i64 b, .string ⟨#[]⟩, .string ⟨#[]⟩]:List Value).toArray:=by kernel_rfl
theorem oO (i c:Int) (a b:ByteArray):∀v∈([.int .i64 i, .int .i64 c, .string a, .string b]:List Value),v.oneCell'=true:=by
 intro v d;simp only[List.mem_cons,List.mem_nil_iff,or_false]at d;rcases d with rfl|rfl|rfl|rfl<;>rfl
theorem pR:(prog.info? 368).map (fun i=>(i.zero,i.size,i.bytes))=some (some (.agg #[.int .i64 0, .int .i64 0, .string ⟨#[]⟩, .string ⟨#[]⟩]),4,48):=by kernel_rfl
theorem Fj {f i:Nat} {a r:ByteArray} {l:List ByteArray} {c:Nat} (hc:¬1<c) (h:cT f c i a l=some r):l=[]∧a=r:=by
 cases f with
 |zero=>
  unfold cT at h
  split at h
  ·exact⟨by assumption,by simpa using h⟩
  ·cases h
 |succ f=>
  unfold cT at h;rw[if_neg hc]at h
  split at h
  ·exact⟨by assumption,by simpa using h⟩
  ·cases h
theorem Fo {f i c:Nat} {a r:ByteArray} {l:List ByteArray} (d:c≤f) (hc:1<c) (hb:i^^^1<c) (h:cT f c i a l=some r):∃(b:Nat) (p:ByteArray) (t:List ByteArray),l=p::t∧(c+1)/2≤b∧cT b ((c+1)/2) (i/2) (if i^^^1<i then kQ p a else kQ a p) t=some r:=by
 cases f with
 |zero=>omega
 |succ f=>
  unfold cT at h;rw[if_pos hc,if_pos hb]at h
  cases l with
  |nil=>cases h
  |cons p t=>exact⟨f,p,t,rfl,by omega,h⟩
theorem Ik {f i c:Nat} {a r:ByteArray} {l:List ByteArray} (d:c≤f) (hc:1<c) (hb:¬i^^^1<c) (h:cT f c i a l=some r):∃b,(c+1)/2≤b∧cT b ((c+1)/2) (i/2) a l=some r:=by
 cases f with
 |zero=>omega
 |succ f=>
  unfold cT at h;rw[if_pos hc,if_neg hb]at h;exact⟨f,by omega,h⟩
structure gy (w:World) (b5 g:Nat) (cs:List Value) (ty:TypeId) (ov:Value) (q:Nat) (ys:List Value) (cells:List Value) (wx:World):Prop where
 blk:ac wx b5 cells 368
 row:ac wx g cs ty
 own:wx.ownsRow w.heap.size 368 4 ov q ys
 bel:Below w.heap.size w wx
 lo:w.heap.size≤b5
 hg:g<w.heap.size
 ne:∀k,ov.ownBlock=some k→k≠b5
theorem gy.set {w:World} {d g:Nat} {cs:List Value} {i:TypeId} {f:Value} {q:Nat} {l c:List Value} {e:World} (h:gy w d g cs i f q l c e) (k:Nat) (v:Value):gy w d g cs i f q l (c.set k v) (e.setCell ⟨d,k,none⟩ v):=
 ⟨h.blk.set k v,h.row.set_other (a:=⟨d,k,none⟩) (by have:=h.hg;have:=h.lo;show g≠d;omega) v,aJ h.own ((ai.refl [d] e).setCell (b:=d) (.inl (by simp)) k v) (fun j m n=>h.ne j m (by simpa using n)),h.bel.setCell (p:=⟨d,k,none⟩) h.lo v,h.lo,h.hg,h.ne⟩
theorem gy.below {w:World} {c g:Nat} {cs:List Value} {e:TypeId} {d:Value} {q:Nat} {f a:List Value} {b wy:World} (h:gy w c g cs e d q f a b) (hb:Below b.heap.size b wy):gy w c g cs e d q f a wy:=
 ⟨h.blk.below hb h.blk.lt,h.row.below hb h.row.lt,own_below hb h.own,h.bel.trans (hb.mono h.bel.size),h.lo,h.hg,h.ne⟩
theorem AX (c i:Nat) (F:ByteArray) (pv:Value) (l:List ByteArray) (root:ByteArray) (w:World) (an:j9 w pv l) (ef:c≤4096) (eg:i≤4096) (b8:∀x∈l,x.size=32) (cf:F.size=32) (hR:∃f,c≤f∧cT f c i F l=some root):
  Calls prog 296 #[.int .i64 (c:Int), .int .i64 (i:Int), .string F,pv] w fun e w'=>(∃vo,e= .returned (.tuple #[vo, .string root, .bool true]))∧Below w.heap.size w w':=by
 have b2:=hid an;have cm:=hid b8;have cy:=hid cf;have HR:=hid hR;clear an b8 cf hR;go_enter func296,ntmps296;go_wp2_with fail;go_loopw [0,1,2,3,11] (fun cv iv lv pv ov wr=>∃(k j:Nat) (m:ByteArray) (t:List ByteArray) (q:Nat) (H:List Value),cv= .int .i64 (k:Int)∧iv= .int .i64 (j:Int)∧lv= .string m∧Hid (j9 w pv t)∧k≤c∧j≤i∧Hid (∀x∈t,x.size=32)∧Hid (m.size=32)∧Hid (∃f,k≤f∧cT f k j m t=some root)∧q+k≤c∧Hid (wr.ownsRow w.heap.size 368 4 ov q H)∧Hid (Below w.heap.size w wr)) (fun cv _ _ _ _ _=>(intOf cv).toNat)
 case atStart=>exact⟨c,i,F,l,0,[],rfl,rfl,rfl,b2,Nat.le_refl _,Nat.le_refl _,cm,cy,HR,by omega,hid (World.ownsRow_nil _ _ _ _),hid (Below.refl _ _)⟩
 case round=>
  obtain⟨k,j,m,t,q,H,rfl,rfl,rfl,b1,hk,hj,E,a2,a3,hq,V,B⟩:=hrel;obtain⟨pp,pc,c9,c7,P⟩:=b1.out;subst c9;obtain⟨po,co,db⟩:=aD V.out;subst db;have cW:=hid P;clear P
  by_cases h1:1<k
  ·have c4:(1:Int)<(k:Int):=by omega
   obtain⟨b,hb⟩:∃b,j^^^1=b:=⟨_,rfl⟩;have d2:bits .xor .i64 (j:Int) 1=(b:Int):=by rw[←hb];exact sK j 1 (by omega) (by omega)
   have a5:=hid hb
   have bb:wrap64 ((j:Int)/2)=((j/2:Nat):Int):=by
    rw[IntWalk.wrap64_in _ (by omega)];omega
   have bd:wrap64 (((k:Int)+1)/2)=(((k+1)/2:Nat):Int):=by
    rw[IntWalk.wrap64_in _ (by omega)];omega
   clear hb;obtain⟨i0,a9,bi,bk,bl⟩:=info_parts pR
   by_cases Y:b<k
   ·have cb:(b:Int)<(k:Int):=by omega
    have cc:decide (b<k)=true:=decide_eq_true Y
    obtain⟨W,x,r,dc,bx⟩:∃(W:Nat) (x:ByteArray) (r:List ByteArray),t=x::r∧Hid ((k+1)/2≤W∧cT W ((k+1)/2) (j/2) (if b<j then kQ x m else kQ m x) r=some root):=by
     obtain⟨f,hf,h⟩:=a3.out;obtain⟨W,x,r,h2,h3,h4⟩:=Fo hf h1 (by rw[a5.out];exact Y) h;rw[a5.out]at h4;exact⟨W,x,r,h2,h3,h4⟩
    subst dc;obtain⟨g,o,cs,ty,c8,hG,a8⟩:=cW.out (by simp);subst c8;have ce:cs[o]?=some (.string x):=a8 0 x rfl;have HG:=hid hG;have T:=hid ce;have ad:=hid (E.out x (by simp));obtain⟨bn,Q⟩:∃v,Value.slice (if pc=1 then some ⟨g,o,none⟩else some ⟨g,o+1,none⟩) r.length (pc-1)=v:=⟨_,rfl⟩
    have b0:=hid (show j9 w bn r from by
     rw[←Q];rw[List.length_cons]at c7;refine⟨_,_,rfl,by omega,fun h0=>⟨g,o+1,cs,ty, ?_,hG,fun i y hy=> ?_⟩⟩
     ·rw[if_neg (by omega)]
     ·have:=a8 (i+1) y (by simpa using hy)
      rw[show o+1+i=o+(i+1) by omega];exact this)
    have b3:=hid Q;have ei:((r.length:Int)+1==0)=false:=beq_eq_false_iff_ne.2 (by omega);have ej:(1:Int)≤(r.length:Int)+1:=by omega
    clear hG ce a8 Q
    go_upto_region 9 with(first
      |((with_reducible refine av 368 ?parts [.int .i64 (j:Int), .int .i64 (k:Int), .string ⟨#[]⟩, .string ⟨#[]⟩] ?hg ?ho ?hf ?_);(case hg|ho=>rfl);(case hf=>exact yj _ _))
      |((with_reducible refine ab 368 _ AW (some 12) ?hgd ?ho ?hd ?_);(case hgd|ho|hd=>rfl);(intro u w5 G B5 e5 z5))
      |((with_reducible refine aa 368 (.tmp 12) (.tmp 21) u [.int .i64 0, .int .i64 0, .string ⟨#[]⟩, .string ⟨#[]⟩] [.int .i64 (j:Int), .int .i64 (k:Int), .string ⟨#[]⟩, .string ⟨#[]⟩] 368 B5 rfl mP (oO _ _ _ _) ?hgd ?ho ?hx ?hy ?_);(case hgd|ho|hx|hy=>rfl);(intro w6 B6 o6))
      |fail)
    have bw:=hid (show gy w u g cs ty _ q H _ w6 from⟨B6,HG.below (B.trans ((o6.below (e5.mono G) G).mono B.size)) HG.lt,own_below (o6.below (e5.mono G) G) V.out,B.trans ((o6.below (e5.mono G) G).mono B.size),Nat.le_trans B.size G,HG.lt,fun z hz=>by have:=(V.lt z hz).2;omega⟩);clear B5 e5 G z5 B6 o6;refine hb (fun wx=>wx.cell? ⟨g,o,none⟩=some (.string x)) (bw.row.drew.cell T.out) fun a=> ?_
    obtain⟨wd,Z⟩:∃y,y=w6.drew:=⟨_,rfl⟩;have a0:=hid (show gy w u g cs ty _ q H _ wd from by rw[Z];exact bw.below (Below.refl _ _).drew);rw[←Z];rw[←Z]at a;clear Z;refine hp 0 ?_;refine hp 1 ?_;refine hp 2 ?_;refine hp 3 ?_;refine hp 4 ?_;have c2:=a0.blk.cell (i:=2) rfl;have f2:=a0.blk.free 2;refine hc 5 fun K N=> ?_
    go_simp;have I:=hid (show gy w u g cs ty _ q H [.int .i64 (j:Int), .int .i64 (k:Int), .string m, .string ⟨#[]⟩] _ from a0.set 2 (.string m));clear c2 f2
    generalize wd.setCell ⟨u,2,none⟩ (.string m)=we at I ⊢
    refine N.out _ _ (I.row.cell T.out) fun _=> ?_
    clear N K a;rename_i a
    (try go_frame)
    refine hp 6 ?_;have c2:=I.blk.cell (i:=3) rfl;have f2:=I.blk.free 3;refine hc 7 fun K N=> ?_
    go_simp;have p:=hid (show gy w u g cs ty _ q H [.int .i64 (j:Int), .int .i64 (k:Int), .string m, .string x] _ from I.set 3 (.string x));clear c2 f2
    generalize we.setCell ⟨u,3,none⟩ (.string x)=wf at p ⊢
    refine N.out _ _ (p.row.cell T.out) fun _=> ?_
    clear N K a;rename_i a
    (try go_frame)
    refine hd ?_;clear a
    by_cases X:b<j
    ·have b9:(b:Int)<(j:Int):=by omega
     have ca:decide (b<j)=true:=decide_eq_true X;have cx:=p.row.cell T.out;have c2:=p.blk.cell (i:=2) rfl;have f2:=p.blk.free 2;have c3:=(p.set 2 (.string x)).blk.cell (i:=3) rfl;have f3:=(p.set 2 (.string x)).blk.free 3;go_upto_region 12 with fail;have U:=hid (show gy w u g cs ty _ q H [.int .i64 (j:Int), .int .i64 (k:Int), .string x, .string m] _ from(p.set 2 (.string x)).set 3 (.string m));clear cx c2 f2 c3 f3
     generalize(wf.setCell ⟨u,2,none⟩ (.string x)).setCell ⟨u,3,none⟩ (.string m)=wg at U ⊢
     refine hb (fun wx=>wx.cell? ⟨u,2,none⟩=some (.string x)∧wx.cell? ⟨u,3,none⟩=some (.string m)) ⟨U.blk.drew.cell (i:=2) rfl,U.blk.drew.cell (i:=3) rfl⟩ fun a=> ?_
     obtain⟨wv,A⟩:∃y,y=wg.drew:=⟨_,rfl⟩;have a1:=hid (show gy w u g cs ty _ q H _ wv from by rw[A];exact U.below (Below.refl _ _).drew);rw[←A];rw[←A]at a;clear A;refine hp 0 ?_;refine hp 1 ?_;refine hp 2 ?_;refine hp 3 ?_;refine hp 5 ?_;refine hp (v:=bn) 6 ?_ (hy:=fun w _=>by have h:=b3.out;go_simp;first|done|exact h);refine hc 4 fun K N=> ?_
     go_simp
     refine(qW x m _ ad.out a2.out).mono ?_
     rintro e wn ⟨tn,rfl,R,O⟩;have L:=hid R;have d:=hid (a1.below O);clear R O
     (try go_wp2_with fail)
     refine N.out _ _ (⟨d.blk.cell (i:=2) rfl,d.blk.cell (i:=3) rfl⟩) fun _=> ?_
     clear N K a;rename_i a
     (try go_frame)
     refine hp 7 ?_;refine hp 8 ?_;refine hd ?_;clear a
     go_wp2_with (first
       |((with_reducible refine ag 368 (.tmp 12) u 0 [.int .i64 (j:Int), .int .i64 (k:Int), .string x, .string m] _ (some 53) (d.out.blk.range) underlying368 rfl mP ?hg ?ho ?hds ?hx ?_);(case ho|hg|hds|hx=>rfl))
       |((with_reducible refine aT 353 368 1 ?parts2 [.int .i64 (j:Int), .int .i64 (k:Int), .string x, .string m] (.agg #[.int .i64 0, .int .i64 0, .string ⟨#[]⟩, .string ⟨#[]⟩]) 4 48 (some 54) underlying353 pR (by omega) (by omega) ?hgd ?ho ?hd ?hf ?_);(case hgd|ho|hd=>rfl);(case hf=>kernel_rfl);(intro g7 w7 S B7 e7 z7;have n:=own_below (e7.mono S) d.out.own;have D:w.heap.size≤w7.heap.size:=Nat.le_trans d.out.bel.size (Nat.le_trans S (Nat.le_of_lt z7))))
       |(at_builtin;refine wpList_append_own_wide _ rfl _ _ 353 rfl w.heap.size 368 i0 (.agg #[.int .i64 0, .int .i64 0, .string ⟨#[]⟩, .string ⟨#[]⟩]) 4 48 underlying353 a9 bi bk bl rfl (by decide) _ q H rfl n ⟨g7,0,none⟩ 1 1 [.int .i64 (j:Int), .int .i64 (k:Int), .string x, .string m] rfl rfl (bJ B7) (oO _ _ _ _) (by unfold maxLen;omega) (by omega) D ?_;intro v8 w8 C s aq)
       |fail)
     have M:=hid ((d.bel.trans ((e7.mono S).mono d.bel.size)).grown s D (fun z hz=>(n.lt z hz).1));have J:=hid C;go_roundw
     case rel=>
      have h:=bx.out;rw[if_pos X]at h;exact⟨(k+1)/2,j/2,tn,r,q+1,_,by first|rw[bd]|congr 1,by first|rw[bb]|congr 1,rfl,b0,by omega,by omega,hid (fun y hy=>E.out y (by simp[hy])),hid (by rw[L.size];exact pE x m),hid ⟨W,h.1,by rw[L.of];exact h.2⟩,by omega,J,M⟩
     case measure=>simp[intOf];omega
    ·have b9:¬(b:Int)<(j:Int):=by omega
     have ca:decide (b<j)=false:=decide_eq_false X;go_upto_region 12 with fail;refine hb (fun wx=>wx.cell? ⟨u,2,none⟩=some (.string m)∧wx.cell? ⟨u,3,none⟩=some (.string x)) ⟨p.blk.drew.cell (i:=2) rfl,p.blk.drew.cell (i:=3) rfl⟩ fun a=> ?_
     obtain⟨wv,A⟩:∃y,y=wf.drew:=⟨_,rfl⟩;have a1:=hid (show gy w u g cs ty _ q H _ wv from by rw[A];exact p.below (Below.refl _ _).drew);rw[←A];rw[←A]at a;clear A;refine hp 0 ?_;refine hp 1 ?_;refine hp 2 ?_;refine hp 3 ?_;refine hp 5 ?_;refine hp (v:=bn) 6 ?_ (hy:=fun w _=>by have h:=b3.out;go_simp;first|done|exact h);refine hc 4 fun K N=> ?_
     go_simp
     refine(qW m x _ a2.out ad.out).mono ?_
     rintro e wn ⟨tn,rfl,R,O⟩;have L:=hid R;have d:=hid (a1.below O);clear R O
     (try go_wp2_with fail)
     refine N.out _ _ (⟨d.blk.cell (i:=2) rfl,d.blk.cell (i:=3) rfl⟩) fun _=> ?_
     clear N K a;rename_i a
     (try go_frame)
     refine hp 7 ?_;refine hp 8 ?_;refine hd ?_;clear a
     go_wp2_with (first
       |((with_reducible refine ag 368 (.tmp 12) u 0 [.int .i64 (j:Int), .int .i64 (k:Int), .string m, .string x] _ (some 53) (d.out.blk.range) underlying368 rfl mP ?hg ?ho ?hds ?hx ?_);(case ho|hg|hds|hx=>rfl))
       |((with_reducible refine aT 353 368 1 ?parts2 [.int .i64 (j:Int), .int .i64 (k:Int), .string m, .string x] (.agg #[.int .i64 0, .int .i64 0, .string ⟨#[]⟩, .string ⟨#[]⟩]) 4 48 (some 54) underlying353 pR (by omega) (by omega) ?hgd ?ho ?hd ?hf ?_);(case hgd|ho|hd=>rfl);(case hf=>kernel_rfl);(intro g7 w7 S B7 e7 z7;have n:=own_below (e7.mono S) d.out.own;have D:w.heap.size≤w7.heap.size:=Nat.le_trans d.out.bel.size (Nat.le_trans S (Nat.le_of_lt z7))))
       |(at_builtin;refine wpList_append_own_wide _ rfl _ _ 353 rfl w.heap.size 368 i0 (.agg #[.int .i64 0, .int .i64 0, .string ⟨#[]⟩, .string ⟨#[]⟩]) 4 48 underlying353 a9 bi bk bl rfl (by decide) _ q H rfl n ⟨g7,0,none⟩ 1 1 [.int .i64 (j:Int), .int .i64 (k:Int), .string m, .string x] rfl rfl (bJ B7) (oO _ _ _ _) (by unfold maxLen;omega) (by omega) D ?_;intro v8 w8 C s aq)
       |fail)
     have M:=hid ((d.bel.trans ((e7.mono S).mono d.bel.size)).grown s D (fun z hz=>(n.lt z hz).1));have J:=hid C;go_roundw
     case rel=>
      have h:=bx.out;rw[if_neg X]at h;exact⟨(k+1)/2,j/2,tn,r,q+1,_,by first|rw[bd]|congr 1,by first|rw[bb]|congr 1,rfl,b0,by omega,by omega,hid (fun y hy=>E.out y (by simp[hy])),hid (by rw[L.size];exact pE m x),hid ⟨W,h.1,by rw[L.of];exact h.2⟩,by omega,J,M⟩
     case measure=>simp[intOf];omega
   ·have cb:¬(b:Int)<(k:Int):=by omega
    have cc:decide (b<k)=false:=decide_eq_false Y
    go_upto_region 13 with(first
      |((with_reducible refine av 368 ?parts [.int .i64 (j:Int), .int .i64 (k:Int), .string ⟨#[]⟩, .string ⟨#[]⟩] ?hg ?ho ?hf ?_);(case hg|ho=>rfl);(case hf=>exact yj _ _))
      |((with_reducible refine ab 368 _ AW (some 12) ?hgd ?ho ?hd ?_);(case hgd|ho|hd=>rfl);(intro u w5 G B5 e5 z5))
      |((with_reducible refine aa 368 (.tmp 12) (.tmp 21) u [.int .i64 0, .int .i64 0, .string ⟨#[]⟩, .string ⟨#[]⟩] [.int .i64 (j:Int), .int .i64 (k:Int), .string ⟨#[]⟩, .string ⟨#[]⟩] 368 B5 rfl mP (oO _ _ _ _) ?hgd ?ho ?hx ?hy ?_);(case hgd|ho|hx|hy=>rfl);(intro w6 B6 o6))
      |fail)
    have cu:=hid B6;have a7:Below wr.heap.size wr w6:=o6.below (e5.mono G) G;have cz:=hid (own_below a7 V.out);have a4:=hid (B.trans (a7.mono B.size));clear B5 e5 G z5 B6 o6 a7
    go_wp2_with (first
      |((with_reducible refine ag 368 (.tmp 12) u 0 [.int .i64 (j:Int), .int .i64 (k:Int), .string ⟨#[]⟩, .string ⟨#[]⟩] _ (some 53) (cu.out.range) underlying368 rfl mP ?hg ?ho ?hds ?hx ?_);(case ho|hg|hds|hx=>rfl))
      |((with_reducible refine aT 353 368 1 ?parts2 [.int .i64 (j:Int), .int .i64 (k:Int), .string ⟨#[]⟩, .string ⟨#[]⟩] (.agg #[.int .i64 0, .int .i64 0, .string ⟨#[]⟩, .string ⟨#[]⟩]) 4 48 (some 54) underlying353 pR (by omega) (by omega) ?hgd ?ho ?hd ?hf ?_);(case hgd|ho|hd=>rfl);(case hf=>kernel_rfl);(intro g7 w7 S B7 e7 z7;have n:=own_below (e7.mono S) cz.out;have D:w.heap.size≤w7.heap.size:=Nat.le_trans a4.out.size (Nat.le_trans S (Nat.le_of_lt z7))))
      |(at_builtin;refine wpList_append_own_wide _ rfl _ _ 353 rfl w.heap.size 368 i0 (.agg #[.int .i64 0, .int .i64 0, .string ⟨#[]⟩, .string ⟨#[]⟩]) 4 48 underlying353 a9 bi bk bl rfl (by decide) _ q H rfl n ⟨g7,0,none⟩ 1 1 [.int .i64 (j:Int), .int .i64 (k:Int), .string ⟨#[]⟩, .string ⟨#[]⟩] rfl rfl (bJ B7) (oO _ _ _ _) (by unfold maxLen;omega) (by omega) D ?_;intro v8 w8 C s aq)
      |fail)
    have M:=hid ((a4.trans ((e7.mono S).mono a4.size)).grown s D (fun z hz=>(n.lt z hz).1));have J:=hid C;go_roundw
    case rel=>
     obtain⟨f,hf,h⟩:=a3.out;obtain⟨W,c6,h'⟩:=Ik hf h1 (by rw[a5.out];exact Y) h;exact⟨(k+1)/2,j/2,m,t,q+1,_,by first|rw[bd]|congr 1,by first|rw[bb]|congr 1,rfl,b1,by omega,by omega,E,a2,hid ⟨W,c6,h'⟩,by omega,J,M⟩
    case measure=>simp[intOf];omega
  ·have c4:¬(1:Int)<(k:Int):=by omega
   obtain⟨rfl,rfl⟩:t=[]∧m=root:=by
    obtain⟨f,_,h⟩:=a3.out;exact Fj h1 h
   go_wp2_with fail
   (try simp only[Exit.inBlock,Exit.then]);refine bodyPost_ret (results_tmp3 rfl _ _ _) rfl ⟨⟨_,rfl⟩,B.out⟩
theorem Il:(prog.info? 9).map (fun i=>(i.zero,i.size,i.bytes))=some (some (.string ⟨#[]⟩),1,16):=by kernel_rfl
theorem Jw (c i:Nat) (a:ByteArray) (A:Value) (l:List ByteArray) (root:ByteArray) (w:World) (b:w.ownsRow 0 9 1 A l.length (l.map .string)) (s:c≤4096) (C:i<c) (k:∀x∈l,x.size=32) (D:l.length≤4096) (p:a.size=32) (y:cT c c i a l=some root):
  Calls prog 269 #[.int .i64 (c:Int), .int .i64 (i:Int), .string a,A] w fun e w'=>e= .returned (.tuple #[.string root, .int .i64 0])∧Below w.heap.size w w':=by
 have j:=hid b;have g:=hid k;have h:=hid p;have B:=hid y;obtain⟨pp,E,t⟩:=aD b;subst t;have H:¬(c:Int)<1:=by omega
 have I:¬(1048576:Int)<(c:Int):=by omega
 have J:¬(i:Int)<0:=by omega
 have K:¬(c:Int)≤(i:Int):=by omega
 clear b k p y;go_enter func269,ntmps269
 go_wp2_with (first
  |((with_reducible refine aT 45 9 1 ?parts [.string a] (.string ⟨#[]⟩) 1 16 (some 29) underlying45 Il (by omega) (by omega) ?hgd ?ho ?hd ?hf ?_);(case hgd|ho|hd=>rfl);(case hf=>kernel_rfl);(intro G M z u v F))
  |fail)
 have f:=hid (v.mono z);have d:=hid (own_below f.out j.out);have r:=hid (KU (n:=1) (m:=1) u rfl (by decide));clear u v z F
 refine(jV _ 1 1 [a] _ r.out rfl (by simp;exact h.out) (by omega)).mono ?_
 rintro e w' ⟨rfl,rfl⟩;go_wp2_with fail
 refine(jV pp l.length E l _ d.out rfl g.out (by omega)).mono ?_
 rintro e w' ⟨rfl,rfl⟩;go_wp2_with fail
 refine(AX c i a _ l root _ (j9.own d.out) s (by omega) g.out h.out ⟨c,Nat.le_refl _,B.out⟩).mono ?_
 rintro e N ⟨⟨L,rfl⟩,o⟩;have q:=hid (f.trans (o.mono f.size));clear o;go_wp2_with fail;go_ret2;exact⟨rfl,q.out⟩
theorem DD (c i:Nat) (a:ByteArray) (n:Value) (l:List ByteArray) (root:ByteArray) (w:World) (b:w.ownsRow 0 9 1 n l.length (l.map .string)) (j:c≤4096) (k:i<c) (d:∀x∈l,x.size=32) (m:l.length≤4096) (g:a.size=32) (o:cT c c i a l=some root):
  Calls prog 219 #[.string root, .int .i64 (c:Int), .int .i64 (i:Int), .string a,n] w fun e w'=>e= .returned (.bool true)∧Below w.heap.size w w':=by
 go_enter func219,ntmps219;go_wp2_with fail
 refine(Jw c i a n l root _ b j k d m g o).mono ?_
 rintro e q ⟨rfl,f⟩;have h:=hid f;have p:(root.toList==root.toList)=true:=beq_self_eq_true _;clear f b d g o;go_wp2_with fail;go_ret;exact⟨rfl,h.out⟩
def bj (f:Bool) (at':Int) (h a:ap) (u v:Value):List Value:=[.bool f, .int .i64 at', .int .i64 h.lba, .string h.hash, .int .i64 a.lba, .string a.hash,u,v]
def N0:Value:= .slice none 0 0
theorem rT (w:World):(zeroValue 68).run prog w= .ok (.agg (bj false 0 ap.none ap.none N0 N0).toArray) w:=by kernel_rfl
theorem dD {f:Bool} {n:Int} {h a:ap} {u v:Value}:(prog.info? 68).map (·.size)=some (bj f n h a u v).length:=by kernel_rfl
theorem oP {f:Bool} {n:Int} {h a:ap} {u v:Value} (hu:u.oneCell'=true) (c:v.oneCell'=true):∀x∈bj f n h a u v,x.oneCell'=true:=by
 intro x b;simp only[bj,List.mem_cons,List.mem_nil_iff,or_false]at b;rcases b with rfl|rfl|rfl|rfl|rfl|rfl|rfl|rfl<;>first|rfl|assumption
theorem Jy (f:Bool) (n:Int):prog.built 68 [(0, .bool f),(1, .int .i64 n)]=some (bj f n ap.none ap.none N0 N0).toArray:=by kernel_rfl
theorem row_ne {w:World} {b a size n:Nat} {c:List Value} {t e:TypeId} {v:Value} {xs:List Value} (h:ac w b c t) (f:t≠e) (i:w.ownsRow a e size v n xs):v.ownBlock≠some b:=by
 intro d
 rcases i.2 with⟨rfl,_⟩|⟨g,cap,cur,rfl,_,hg,_⟩
 ·cases d
 ·injection d with d
  subst d
  have:=h.symm.trans hg
  simp at this;exact f this.2
theorem aU {w g:World} {b a size n:Nat} {c:List Value} {t e:TypeId} {v:Value} {xs:List Value} (f:w.ownsRow a e size v n xs) (o:cA b w g) (h:ac w b c t) (d:t≠e):g.ownsRow a e size v n xs:=
 aJ f (o.turned (S:=[b]) (by simp)) (fun k i j=>row_ne h d f (by rw[i];simpa using j))
structure lC (w:World) (b4 b10 n:Nat) (tv:Value) (l:List ap) (f:Bool) (k:Int) (x a:ap) (u:Value) (ul:List ByteArray) (v:Value) (vl:List ByteArray) (wx:World):Prop where
 res:ac wx b4 (bj false 0 ap.none ap.none N0 N0) 68
 blk:ac wx b10 (bj f k x a u v) 68
 tree:wx.ownsRow w.heap.size 9 1 tv n ((bG l).map .string)
 ups:wx.ownsRow w.heap.size 9 1 u ul.length (ul.map .string)
 lefts:wx.ownsRow w.heap.size 9 1 v vl.length (vl.map .string)
 bel:Below w.heap.size w wx
 lo4:w.heap.size≤b4
 lo:w.heap.size≤b10
 ne:b4≠b10
section
variable {w:World} {b4 b10 n:Nat} {tv:Value} {l:List ap} {f:Bool} {k:Int} {x a x' a':ap} {u v u' v':Value} {ul vl ul' vl':List ByteArray} {wx wy:World}
theorem lC.below (h:lC w b4 b10 n tv l f k x a u ul v vl wx) (hb:Below wx.heap.size wx wy):lC w b4 b10 n tv l f k x a u ul v vl wy:=
 ⟨h.res.below hb h.res.lt,h.blk.below hb h.blk.lt,own_below hb h.tree,own_below hb h.ups,own_below hb h.lefts,h.bel.trans (hb.mono h.bel.size),h.lo4,h.lo,h.ne⟩
theorem lC.only (h:lC w b4 b10 n tv l f k x a u ul v vl wx) (o:cA b10 wx wy) (b:ac wy b10 (bj f k x' a' u' v') 68) (hu:wx.ownsRow w.heap.size 9 1 u' ul'.length (ul'.map .string)) (c:wx.ownsRow w.heap.size 9 1 v' vl'.length (vl'.map .string)):lC w b4 b10 n tv l f k x' a' u' ul' v' vl' wy:=
 ⟨o.blk h.res h.ne,b,aU h.tree o h.blk (by decide),aU hu o h.blk (by decide),aU c o h.blk (by decide),o.below h.bel h.lo,h.lo4,h.lo,h.ne⟩
theorem iC (h:wx.ownsRow w.heap.size 9 1 u n (ul.map .string)):u.oneCell'=true:=by
 obtain⟨p,c,rfl⟩:=aD h
 rfl
end
theorem yl {l:List ap} {lba:Int} (h:¬(eV l lba=false∧0<ct l lba)):(bA l lba).ahead=ap.none∧(bA l lba).left=[]:=⟨if_neg h,if_neg h⟩
theorem AY (p:Option Addr) (n c:Nat) (l:List ap) (lba:Int) (w:World) (h:ed w p n l) (ok:fp l) (hn:n≤4095) (h0:0≤lba) (h1:lba≤4095):
  Calls prog 136 #[.slice p n c, .int .i64 lba] w fun e w'=>(∃u v,e= .returned (.tuple #[.agg (bj (bA l lba).found (bA l lba).pos (bA l lba).here (bA l lba).ahead u v).toArray, .int .i64 0])∧w'.ownsRow w.heap.size 9 1 u (bA l lba).up.length ((bA l lba).up.map .string)∧w'.ownsRow w.heap.size 9 1 v (bA l lba).left.length ((bA l lba).left.map .string))∧Below w.heap.size w w':=by
 have Q:=hid h;have F:=hid h.1;have R:=hid ok;obtain⟨P,hP⟩:∃P,bA l lba=P:=⟨_,rfl⟩;have i:=hid hP;have ah:=hid (wJ l lba);rw[hP];obtain⟨ps,U⟩:∃ps,ct l lba=ps:=⟨_,rfl⟩;obtain⟨q,hq⟩:∃q,eV l lba=q:=⟨_,rfl⟩;have o:=hid U;have HQ:=hid hq;clear h ok hP;go_enter func136,ntmps136
 go_wp2_with (first
  |((with_reducible refine ab 68 _ rT (some 4) ?hgd ?ho ?hd ?_);(case hgd|ho|hd=>rfl);(intro b4 w1 l1 B1 e1 z1))
  |fail)
 have X:=hid B1;have bn:=hid l1;have Y:=hid (e1.mono l1);have M:=hid (Q.below (e1.mono l1));clear B1 e1 l1 z1
 refine(nS p n c l _ M.out R.out (by omega)).mono ?_
 rintro e w2 ⟨rfl,G⟩;have J:=hid (X.below G X.lt);have B:=hid (Y.trans (G.mono Y.size));have N:=hid (M.below G);clear G;go_wp2_with fail
 refine(nQ lba _ h0 h1).mono ?_
 rintro e w' ⟨rfl,rfl⟩;go_wp2_with fail
 refine(mK p n c l _ N.out R.out (by omega)).mono ?_
 rintro e w3 ⟨⟨tv,rfl,V⟩,H⟩;obtain⟨tp,tc,b6⟩:=aD V;subst b6;have bo:=hid (own_base V B.size);have K:=hid (J.below H J.lt);have L:=hid (B.trans (H.mono B.size));have O:=hid (N.below H);clear V H;go_wp2_with fail
 refine(y7 p n c l lba _ O.out R.out (by omega)).mono ?_
 rw[U,hq];rintro e w4 ⟨rfl,D⟩;have bs:=hid (own_below D bo.out);have A:=hid (K.below D K.lt);have C:=hid (L.trans (D.mono L.size));have ca:=hid (O.below D);clear D U hq
 go_upto_region 7 with(first
  |((with_reducible refine av 68 ?parts (bj q (ps:Int) ap.none ap.none N0 N0) ?hg ?ho ?hf ?_);(case hg|ho=>rfl);(case hf=>exact Jy _ _))
  |((with_reducible refine ab 68 _ rT (some 10) ?hgd ?ho ?hd ?_);(case hgd|ho|hd=>rfl);(intro f w5 l5 B5 e5 z5))
  |((with_reducible refine aa 68 (.tmp 10) (.tmp 31) f (bj false 0 ap.none ap.none N0 N0) (bj q (ps:Int) ap.none ap.none N0 N0) 68 B5 rfl dD (oP rfl rfl) ?hgd ?ho ?hx ?hy ?_);(case hgd|ho|hx|hy=>rfl);(intro w6 B6 o6))
  |fail)
 have I:Below w4.heap.size w4 w6:=o6.below (e5.mono l5) l5;have s:=hid (show lC w b4 f n (.slice tp n tc) l q (ps:Int) ap.none ap.none N0 [] N0 [] w6 from⟨A.below I A.lt,B6,own_below I bs.out,World.ownsRow_nil _ _ _ _,World.ownsRow_nil _ _ _ _,C.trans (I.mono C.size),bn.out,Nat.le_trans C.size l5,by have:=A.lt;omega⟩);clear B5 e5 l5 z5 B6 o6 I;go_upto_if 35 with fail
 (try go_frame)
 go_cut []from 32 to 47 (fun wd=>Hid (∃u,lC w b4 f n (.slice tp n tc) l q (ps:Int) P.here ap.none u P.up N0 [] wd))
 case first=>
  have Z:=hid (Q.below s.bel)
  by_cases T:ps<n
  ·have a5:(ps:Int)<(n:Int):=by omega
   have a6:decide (ps<n)=true:=decide_eq_true T;have t:(0:Int)≤(ps:Int):=by omega
   obtain⟨x,hx⟩:∃x,l[ps]?=some x:=⟨_,List.getElem?_eq_getElem (by have:=F.out;omega)⟩;obtain⟨g,z,S,hB⟩:=Z.out.2 (by omega);subst S;have HL:=hid (mi hB hx)
   have HX:=hid (show P.here=x∧P.up=hO (bG l) ps from by
    rw[←i.out];unfold bA;simp only[o.out,hx,Option.getD_some,true_and];exact if_pos (by have:=F.out;omega))
   clear hB hx
   go_wp2_with (first
    |((with_reducible refine ag 65 (.tmp 38) g (ps*2) x.cells _ (some 39) HL.out underlying65 rfl bX ?hg ?ho ?hds ?hx ?_);(case ho|hg|hds|hx=>rfl))
    |((with_reducible refine ga 65 (.tmp 40) (.tmp 39) f 2 x.cells (bj q (ps:Int) ap.none ap.none N0 N0) 68 s.out.blk (Nat.le_of_ble_eq_true rfl) bX (pz _) ?hgd ?ho ?hx ?hy ?_);(case hgd|ho|hx|hy=>rfl);(intro w7 W o7))
    |fail)
   have j:=hid (s.only (x':=x) (a':=ap.none) (u':=N0) (v':=N0) o7 W s.ups s.lefts);clear W o7
   refine(u6 tp n tc (bG l) ps _ (ja j.tree) (by rw[jf];exact F.out) (pP l) (by omega) T).mono ?_
   rintro e w8 ⟨⟨u,rfl,hu⟩,E⟩;have k:=hid (j.below E);have an:=hid (own_base hu j.bel.size);have bt:=hid (iC an.out);clear hu E
   go_wp2_with (first
    |((with_reducible refine dS 66 (.tmp 47) (.tmp 45) f 6 u _ _ k.out.blk (Nat.le_of_ble_eq_true rfl) (by kernel_rfl) bt.out ?hgd ?ho ?hx ?hy ?_);(case hgd|ho|hx|hy=>rfl);(intro w9 B9 o9))
    |fail)
   all_goals go_meet
   exact⟨u,k.only o9 (by rw[HX.out.1];exact B9) (by rw[HX.out.2];exact an.out) k.lefts⟩
  ·have a5:¬(ps:Int)<(n:Int):=by omega
   have a6:decide (ps<n)=false:=decide_eq_false T
   have HX:=hid (show P.here=ap.none∧P.up=[]from by
    rw[←i.out];unfold bA;rw[o.out,List.getElem?_eq_none (by have:=F.out;omega)];exact⟨rfl,if_neg (by have:=F.out;omega)⟩)
   go_wp2_with fail
   all_goals go_meet
   exact⟨N0,by rw[HX.out.1,HX.out.2];exact s.out⟩
 case rest=>
  obtain⟨u,a2⟩:=hcut.out;have a:=hid a2;have ad:=hid (Q.below a.bel);clear hcut a2
  cases q with
  |true=>
   have r:=hid (show P.found=true∧(P.pos:Int)=(ps:Int)∧P.ahead=ap.none∧P.left=[]from by
    have h:=yl (l:=l) (lba:=lba) (fun h=>by rw[HQ.out]at h;cases h.1);rw[i.out]at h;exact⟨by rw[←i.out];exact HQ.out,by rw[←i.out];exact congrArg _ o.out,h.1,h.2⟩)
   go_wp2_with (first
    |((with_reducible refine ag 68 (.tmp 10) f 0 (bj true (ps:Int) P.here ap.none u N0) _ (some 68) (a.out.blk.range) underlying68 rfl dD ?hg ?ho ?hds ?hx ?_);(case ho|hg|hds|hx=>rfl))
    |((with_reducible refine aa 68 (.tmp 4) (.tmp 68) b4 (bj false 0 ap.none ap.none N0 N0) (bj true (ps:Int) P.here ap.none u N0) 68 a.out.res rfl dD (oP (iC a.out.ups) (iC a.out.lefts)) ?hgd ?ho ?hx ?hy ?_);(case hgd|ho|hx|hy=>rfl);(intro a8 y b))
    |fail)
   (try simp only[Exit.inBlock,Exit.then]);refine bodyPost_ret (aE rfl _ _ y.range rfl underlying68 rfl dD) rfl ⟨⟨u,N0, ?_, ?_, ?_⟩,b.below a.bel a.lo4⟩
   ·rw[r.out.1,r.out.2.1,r.out.2.2.1]
    rfl
   ·exact aU a.ups b a.res (by decide)
   ·rw[r.out.2.2.2]
    exact aU a.lefts b a.res (by decide)
  |false=>
   by_cases t:0<ps
   ·have b2:(0:Int)<(ps:Int):=by omega
    have b3:decide (0<ps)=true:=decide_eq_true t;have a3:=ah.out;rw[o.out,F.out]at a3;have b1:IntKind.i64.wrap ((ps:Int)-1)=((ps-1:Nat):Int):=by rw[IntKind.wrap_i64];omega
    have a4:(ps:Int)-1=((ps-1:Nat):Int):=by omega
    obtain⟨m,hm⟩:∃m,ps-1=m:=⟨_,rfl⟩;have co:(m:Int)<(n:Int):=by have:=F.out;omega
    have cs:(0:Int)≤(m:Int):=by omega
    obtain⟨x,hx⟩:∃x,l[m]?=some x:=⟨_,List.getElem?_eq_getElem (by have:=F.out;omega)⟩;obtain⟨g,z,S,hB⟩:=ad.out.2 (by omega);subst S;have HL:=hid (mi hB hx);have HM:=hid (show m<n from by omega)
    have r:=hid (show P.found=false∧(P.pos:Int)=(ps:Int)∧P.ahead=x∧P.left=hO (bG l) m from by
     rw[←i.out];unfold bA;simp only[o.out,HQ.out,hm,hx,Option.getD_some,true_and];exact⟨if_pos t,if_pos t⟩)
    rw[hm]at b1 a4;clear hB hx hm a3
    go_wp2_with (first
     |((with_reducible refine ag 65 (.tmp 57) g (m*2) x.cells _ (some 58) HL.out underlying65 rfl bX ?hg ?ho ?hds ?hx ?_);(case ho|hg|hds|hx=>rfl))
     |((with_reducible refine ga 65 (.tmp 59) (.tmp 58) f 4 x.cells (bj false (ps:Int) P.here ap.none u N0) 68 a.out.blk (Nat.le_of_ble_eq_true rfl) bX (pz _) ?hgd ?ho ?hx ?hy ?_);(case hgd|ho|hx|hy=>rfl);(intro w7 W o7))
     |fail)
    have j:=hid (a.only (x':=P.here) (a':=x) (u':=u) (v':=N0) o7 W a.ups a.lefts);clear W o7
    refine(u6 tp n tc (bG l) m _ (ja j.tree) (by rw[jf];exact F.out) (pP l) (by omega) HM.out).mono ?_
    rintro e w8 ⟨⟨v,rfl,hv⟩,E⟩;have k:=hid (j.below E);have aq:=hid (own_base hv j.bel.size);have bv:=hid (iC aq.out);clear hv E
    go_upto_region 13 with(first
     |((with_reducible refine dS 66 (.tmp 67) (.tmp 65) f 7 v _ _ k.out.blk (Nat.le_of_ble_eq_true rfl) (by kernel_rfl) bv.out ?hgd ?ho ?hx ?hy ?_);(case hgd|ho|hx|hy=>rfl);(intro w9 B9 o9))
     |fail)
    have d:=hid (k.only (x':=P.here) (a':=x) (u':=u) (v':=v) o9 B9 k.ups aq.out);clear B9 o9
    go_wp2_with (first
     |((with_reducible refine ag 68 (.tmp 10) f 0 (bj false (ps:Int) P.here x u v) _ (some 68) (d.out.blk.range) underlying68 rfl dD ?hg ?ho ?hds ?hx ?_);(case ho|hg|hds|hx=>rfl))
     |((with_reducible refine aa 68 (.tmp 4) (.tmp 68) b4 (bj false 0 ap.none ap.none N0 N0) (bj false (ps:Int) P.here x u v) 68 d.out.res rfl dD (oP (iC d.out.ups) (iC d.out.lefts)) ?hgd ?ho ?hx ?hy ?_);(case hgd|ho|hx|hy=>rfl);(intro a8 y b))
     |fail)
    (try simp only[Exit.inBlock,Exit.then]);refine bodyPost_ret (aE rfl _ _ y.range rfl underlying68 rfl dD) rfl ⟨⟨u,v, ?_, ?_, ?_⟩,b.below d.bel d.lo4⟩
    ·rw[r.out.1,r.out.2.1,r.out.2.2.1]
     rfl
    ·exact aU d.ups b d.res (by decide)
    ·rw[r.out.2.2.2]
     exact aU d.lefts b d.res (by decide)
   ·have b2:¬(0:Int)<(ps:Int):=by omega
    have b3:decide (0<ps)=false:=decide_eq_false t
    have r:=hid (show P.found=false∧(P.pos:Int)=(ps:Int)∧P.ahead=ap.none∧P.left=[]from by
     have h:=yl (l:=l) (lba:=lba) (fun h=>by rw[o.out]at h;exact t h.2);rw[i.out]at h;exact⟨by rw[←i.out];exact HQ.out,by rw[←i.out];exact congrArg _ o.out,h.1,h.2⟩)
    go_wp2_with (first
     |((with_reducible refine ag 68 (.tmp 10) f 0 (bj false (ps:Int) P.here ap.none u N0) _ (some 68) (a.out.blk.range) underlying68 rfl dD ?hg ?ho ?hds ?hx ?_);(case ho|hg|hds|hx=>rfl))
     |((with_reducible refine aa 68 (.tmp 4) (.tmp 68) b4 (bj false 0 ap.none ap.none N0 N0) (bj false (ps:Int) P.here ap.none u N0) 68 a.out.res rfl dD (oP (iC a.out.ups) (iC a.out.lefts)) ?hgd ?ho ?hx ?hy ?_);(case hgd|ho|hx|hy=>rfl);(intro a8 y b))
     |fail)
    (try simp only[Exit.inBlock,Exit.then]);refine bodyPost_ret (aE rfl _ _ y.range rfl underlying68 rfl dD) rfl ⟨⟨u,N0, ?_, ?_, ?_⟩,b.below a.bel a.lo4⟩
    ·rw[r.out.1,r.out.2.1,r.out.2.2.1]
     rfl
    ·exact aU a.ups b a.res (by decide)
    ·rw[r.out.2.2.2]
     exact aU a.lefts b a.res (by decide)
open Go.Maps Go.WideMaps
theorem y9 (y B n:Nat) (ep lba:Int) (D:DataW Unit) (f:Int→Option (List UInt8)) (w:World) (h:dR w y B n ep D) (K:iZ D f) (L:gk f) (r:(aC f 4096).length≤4095) (T:0≤lba) (U:lba≤4095):
  Calls prog 60 #[.pointer (some ⟨y,0,none⟩), .int .i64 lba] w fun e w'=>(∃u v,e= .returned (.tuple #[.agg (bj (bA (aC f 4096) lba).found (bA (aC f 4096) lba).pos (bA (aC f 4096) lba).here (bA (aC f 4096) lba).ahead u v).toArray, .int .i64 0])∧w'.ownsRow w.heap.size 9 1 u (bA (aC f 4096) lba).up.length ((bA (aC f 4096) lba).up.map .string)∧w'.ownsRow w.heap.size 9 1 v (bA (aC f 4096) lba).left.length ((bA (aC f 4096) lba).left.map .string))∧Below w.heap.size w w':=by
 have R:=hid h;have O:=hid K;have Q:=hid L;clear h K L;go_enter func60,ntmps60
 go_wp2_with (first
  |((with_reducible refine ab 68 _ rT (some 4) ?hgd ?ho ?hd ?_);(case hgd|ho|hd=>rfl);(intro S Y x H F W))
  |fail)
 have k:=hid H;have A:=hid x;have l:=hid (F.mono x);have p:=hid (R.below (F.mono x));clear H F x W
 refine(fF y B n ep D _ p.out).mono ?_
 rintro e w' ⟨rfl,rfl⟩;go_wp2_with fail
 refine(kx y B n ep D f _ p.out O.out).mono ?_
 rintro e Z ⟨⟨X,rfl,t⟩,g⟩;obtain⟨q,d,rfl,s⟩:=ed.own t rfl;have C:=hid s;have c:=hid (k.below g k.lt);have a:=hid (l.trans (g.mono l.size));clear t g s;have o:=hid (fun(N:World) (hx:ed N q _ (aC f 4096))=>AY q (aC f 4096).length d (aC f 4096) lba N hx (kP Q.out 4096 (Nat.le_refl _)) r T U);obtain⟨P,G⟩:∃P,bA (aC f 4096) lba=P:=⟨_,rfl⟩;rw[G]at o;have E:=hid G;clear G;go_wp2_with fail
 refine(o.out _ C.out).mono ?_
 rintro e w3 ⟨⟨u,v,rfl,hu,M⟩,i⟩;have b:=hid (c.below i c.lt);have m:=hid (a.trans (i.mono a.size));have I:=hid (own_base hu a.size);have J:=hid (own_base M a.size);clear i hu M
 go_wp2_with (first
  |((with_reducible refine aa 68 (.tmp 4) (.tmp 14) S (bj false 0 ap.none ap.none N0 N0) (bj P.found P.pos P.here P.ahead u v) 68 b.out rfl dD (oP (iC I.out) (iC J.out)) ?hgd ?ho ?hx ?hy ?_);(case hgd|ho|hx|hy=>rfl);(intro V z j))
  |fail)
 (try simp only[Exit.inBlock,Exit.then]);refine bodyPost_ret (aE rfl _ _ z.range rfl underlying68 rfl dD) rfl ⟨⟨u,v,by rw[E.out];rfl,by rw[E.out];exact aU I.out j b.out (by decide),by rw[E.out];exact aU J.out j b.out (by decide)⟩,j.below m.out A.out⟩
def mQ (l:List af) (lba epoch:Int) (m:Nat):Option af:=(bQ l lba m).bind fun x=>if x.epoch=epoch then some x else none
theorem u7:prog.built 130 []=some (af.cells ⟨0,0,0⟩).toArray:=by kernel_rfl
theorem Im (P n m:Nat) (xv:Value) (l:List af) (lba c:Int) (w:World) (N:ac w P [.bool true,xv] 238) (v:w.ownsRow 0 130 3 xv n (au l)) (hl:l.length=n) (hn:n≤4096) (k:∀(i j:Nat) (a b:af),l[i]?=some a→l[j]?=some b→i≤j→cV lba c b→cV lba c a) (hm:dM l lba c m):
  Calls prog 61 #[.pointer (some ⟨P,0,none⟩), .int .i64 lba, .int .i64 c] w fun e w'=>e= .returned (.tuple #[.agg (fN (mQ l lba c m)).cells.toArray, .bool (mQ l lba c m).isSome])∧Below w.heap.size w w':=by
 have Q:=hid (fun(X:World) (N:ac X P [.bool true,xv] 238) (v:X.ownsRow 0 130 3 xv n (au l))=>oK P n m xv l lba c X N v hl hn k hm);have HX:=hid N;have HR:=hid v;unfold mQ
 generalize bQ l lba m=r at Q ⊢
 clear N v hl hn k hm;obtain⟨x,q,hx,K,hr⟩:∃(x:af) (q:Bool),fN r=x∧r.isSome=q∧(q=true→r=some x):=⟨_,_,rfl,rfl,fun h=>by cases r with|none=>cases h|some y=>rfl⟩;rw[hx,K]at Q
 have u:Hid ((r.bind fun x=>if x.epoch=c then some x else none)=if q=true∧x.epoch=c then some x else none):=by
  show _= _
  cases r with
  |none=>subst K;rfl
  |some y=>
   have:some y=some x:=hr (by rw[←K];rfl)
   injection this with this
   subst this;subst K;simp
 rw[u.out];clear hx K hr u;obtain⟨D,p,xs⟩:=x;obtain⟨R,v⟩:∃R,R=(if q=true∧p=c then some (⟨D,p,xs⟩:af)else none):=⟨_,rfl⟩;have B:=hid v;rw[show(if q=true∧(⟨D,p,xs⟩:af).epoch=c then some (⟨D,p,xs⟩:af)else none)=R from v.symm];clear v;go_enter func61,ntmps61
 go_wp2_with (first
  |((with_reducible refine ab 130 _ cd (some 6) ?hgd ?ho ?hd ?_);(case hgd|ho|hd=>rfl);(intro M w1 V Y e1 z1))
  |fail)
 have s:=e1.mono V;have E:=hid Y;have A:=hid V;have G:=hid s
 refine(Q.out _ (HX.below s HX.lt) (own_below s HR.out)).mono ?_
 rintro e w2 ⟨rfl,C⟩;have f:=hid (E.below C E.lt);have t:=hid (G.trans (C.mono G.size));clear Y e1 V z1 s C
 go_upto_region 2 with(first
  |((with_reducible refine ab 130 _ cd (some 8) ?hgd ?ho ?hd ?_);(case hgd|ho|hd=>rfl);(intro T w8 O Z U z8;have F:=hid (f.out.below U (Nat.lt_of_lt_of_le f.out.lt O));have S:=hid (show M≠T by have:=f.out.lt;omega)))
  |((with_reducible refine aa 130 (.tmp 8) (.tmp 15) T (af.cells ⟨0,0,0⟩) (af.cells ⟨D,p,xs⟩) 130 Z rfl aF (bF _) ?hgd ?ho ?hx ?hy ?_);(case hgd|ho|hx|hy=>rfl);(intro w9 B9 W;have g:=hid (W.blk F.out S.out);have z:=hid (t.out.trans ((W.below (U.mono O) O).mono t.out.size));have H:=hid B9;clear B9 W Z U z8 O))
  |fail)
 have c1:=H.cell (i:=1) rfl
 cases q with
 |false=>
  obtain rfl:R=none:=B.trans (if_neg (by simp))
  go_wp2_with (first
   |((with_reducible refine av 130 ?parts (af.cells ⟨0,0,0⟩) ?hg ?ho ?hf ?_);(case hg|ho=>rfl);(case hf=>exact u7))
   |((with_reducible refine aa 130 (.tmp 6) (.tmp 25) M (af.cells ⟨0,0,0⟩) (af.cells ⟨0,0,0⟩) 130 g.out rfl aF (bF _) ?hgd ?ho ?hx ?hy ?_);(case hgd|ho|hx|hy=>rfl);(intro L d o))
   |fail)
  (try simp only[Exit.inBlock,Exit.then]);refine bodyPost_ret (aE rfl _ _ d.range rfl underlying130 rfl aF) rfl ⟨rfl,o.below z.out A.out⟩
 |true=>
  by_cases I:p=c
  ·have J:(p==c)=true:=beq_iff_eq.2 I
   obtain rfl:R=some ⟨D,p,xs⟩:=B.trans (if_pos ⟨rfl,I⟩);subst I;clear J
   go_wp2_with (first
    |((with_reducible refine ag 130 (.tmp 8) T 0 (af.cells ⟨D,p,xs⟩) _ (some 26) (H.out.range) underlying130 rfl aF ?hg ?ho ?hds ?hx ?_);(case ho|hg|hds|hx=>rfl))
    |((with_reducible refine aa 130 (.tmp 6) (.tmp 26) M (af.cells ⟨0,0,0⟩) (af.cells ⟨D,p,xs⟩) 130 g.out rfl aF (bF _) ?hgd ?ho ?hx ?hy ?_);(case hgd|ho|hx|hy=>rfl);(intro L d o))
    |fail)
   (try simp only[Exit.inBlock,Exit.then]);refine bodyPost_ret (aE rfl _ _ d.range rfl underlying130 rfl aF) rfl ⟨rfl,o.below z.out A.out⟩
  ·have J:(p==c)=false:=beq_eq_false_iff_ne.2 I
   obtain rfl:R=none:=B.trans (if_neg (fun h=>I h.2))
   go_wp2_with (first
    |((with_reducible refine av 130 ?parts (af.cells ⟨0,0,0⟩) ?hg ?ho ?hf ?_);(case hg|ho=>rfl);(case hf=>exact u7))
    |((with_reducible refine aa 130 (.tmp 6) (.tmp 25) M (af.cells ⟨0,0,0⟩) (af.cells ⟨0,0,0⟩) 130 g.out rfl aF (bF _) ?hgd ?ho ?hx ?hy ?_);(case hgd|ho|hx|hy=>rfl);(intro L d o))
    |fail)
   (try simp only[Exit.inBlock,Exit.then]);refine bodyPost_ret (aE rfl _ _ d.range rfl underlying130 rfl aF) rfl ⟨rfl,o.below z.out A.out⟩
end Go.Proofs.YtadooplpfhdhcaaGreat
