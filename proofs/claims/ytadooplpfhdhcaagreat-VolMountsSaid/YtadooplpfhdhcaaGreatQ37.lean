/- A finder (chapter 26) takes a record. Going through a log's blocks (chapter 26), in plain words: what each block asks. No program in sight. A finder (chapter 26) goes through all blocks. -/
import Derived.Test.YtadooplpfhdhcaaGreatQ36
import Derived.Test.YtadooplpfhdhcaaGreatQ26
import Derived.Test.YtadooplpfhdhcaaGreatQ7
import Derived.Test.YtadooplpfhdhcaaGreatQ35
set_option linter.unusedSimpArgs false
set_option linter.unusedVariables false
set_option maxRecDepth 100000
set_option maxHeartbeats 4000000
namespace Go.Proofs.YtadooplpfhdhcaaGreat
open Go Go.RowKit Go.Maps Go.WideMaps
open Go.Lib (hid)
open Go.Proofs.Tryz
def IV (w:World) (i:ap) (v:ai) (b:av) (fb m n:Nat) (cv lv:Value) (cs:List ak) (bl:List ByteArray) (D:DataW Unit) (r:Rec) (t:ByteArray) (w':World):Prop:=
 ∃sv n' U L G,br U L G (b.app r)∧n'≤v.n+1∧al w' {i with sv:=sv} {v with epoch:=if r.kind=1 then v.epoch+1 else v.epoch,now:=r.time,n:=n',U:=U,L:=L,G:=G,sealed:=v.sealed++[⟨r,t⟩]}∧bU w' i.vb fb m n cv lv cs bl D∧
  af (i.vb::i.bb::i.c2::i.m1::i.m2::i.m3::i.sv.ownBlock.toList) w w'∧∀x,sv.ownBlock=some x→i.sv.ownBlock=some x∨w.heap.size≤x
theorem zY (i:ap) (v:ai) (b:av) (fb m n:Nat) (cv lv:Value) (cs:List ak) (bl:List ByteArray) (D:DataW Unit) (k:Nat) (r:Rec) (t a6:ByteArray) (w:World) (h:al w i v) (hf:bU w i.vb fb m n cv lv cs bl D) (hm:m≠i.m1∧m≠i.m2∧m≠i.m3) (hD:iQ D cs)
  (V:bl[k]?=some a6) (h0:1≤(eW r t).size) (h4:(eW r t).size≤4000) (ht:ah a6 (holdL (eW r t).data.toList)) (e0:t.size=32) (es:br v.U v.L v.G b) (bn:cQ v.first v.epoch v.now b r=0) (e1:v.n≤65536) (eN:dU) (eD:v.sealed.length≤1048575)
  (et:∀(k:Nat) (c:ak),cs[k]?=some c→bh c) (el:cs.length≤4096) (em:r.kind=1→r.count=(Maps.size (dV r.epoch (cI cs r.epoch)):Int)) (ey:r.kind=1→jz cs r.epoch=false→ah r.root (lK (bu (cp r.epoch (cI cs r.epoch)) 4096))):
  Calls prog 204 #[.pointer (some ⟨fb,0,none⟩), .int .i64 (k:Int)] w fun e w'=>e= .returned (.int .i64 0)∧IV w i v b fb m n cv lv cs bl D r t w':=by
 have b5:aI r=true:=by
  cases hq:aI r with
  |true=>rfl
  |false=>unfold cQ at bn;rw[if_pos hq]at bn;cases bn
 have dc:=dh b5;have fv:k<bl.length:=(List.getElem?_eq_some_iff.1 V).1;obtain⟨lg,e3,z,er,_,_,hG⟩:=ba hf.rows (by omega);have ck:w.cell? ⟨lg,k,none⟩=some (.string a6):=hG.cell (i:=k) (by rw[List.getElem?_append_left (by simpa using fv),List.getElem?_map,V];rfl);have gf:(k:Int)<(bl.length:Int):=by omega
 have f3:w.cell? ⟨fb,3,none⟩=some (.slice (some ⟨lg,0,none⟩) bl.length e3):=by rw[←er];exact hf.fnd.cell (i:=3) rfl
 have d3:=hid (fun(T:World) (hx:bU T i.vb fb m n cv lv cs bl D) (h1:r.kind=1)=>ym i.vb fb m n cv lv cs bl D r T hx hD (by have:=dc;omega) (by have:=dc;omega) et el (em h1) (ey h1))
 have e9:=hid (fun(T:World) (hx:al T i v) (hg:T.ownsMap prog 3 (plainElem prog 4) m n D)=>show m∉[i.bb,i.c2,i.m1,i.m2,i.m3]from by
  simp only[List.mem_cons,List.not_mem_nil,or_false,not_or];exact⟨fun e=>df hg (e ▸ hx.book.ty),fun e=>df hg (e ▸ hx.bclock.ty),hm.1,hm.2.1,hm.2.2⟩)
 have cb:=hid hf;have a5:=hid h;have HT:=hid (And.intro h0 (And.intro h4 ht));have d8:=hid (show(t.size:Int)=32 by omega);have fd:=hid es;have fn:=hid bn;have HN:=hid e1;have fr:=hid eN;have bk:=hid eD;have d6:=hid b5;have c8:=hid (show fh (eW r t).data.toList=some (r,t.data.toList)from Cb b5 t.data.toList);have fo:=hid (show r.cells[0]?=some (.int .i64 r.kind)from rfl);clear h hf hm hD h0 h4 ht es bn e1 eN eD et el em ey hG er b5 dc e0;obtain⟨hB,fs⟩:∃x,eW r t=x:=⟨_,rfl⟩;rw[fs]at HT c8;go_enter func204,ntmps204;go_wp2_with fail
 refine(qB hB a6 _ HT.out.1 HT.out.2.1 HT.out.2.2).mono ?_
 rintro e w1 ⟨rfl,d9⟩;have d4:=hid d9;clear ck f3 d9;go_wp2_with fail
 refine(zX hB _ (by have:=HT.out.2.1;omega)).mono ?_
 rintro e w2 ⟨he,eb⟩;have c7:=hid (d4.trans (eb.mono d4.size));clear eb
 rcases he with⟨r',left,y,h1,rfl,ty⟩|⟨h1,rfl⟩
 case inr=>rw[c8.out]at h1;cases h1
 obtain⟨rfl,rfl⟩:r=r'∧t=y:=by
  rw[c8.out]at h1
  injection h1 with h1
  injection h1 with h1 h2
  exact⟨h1,(ah.self t).eq (by rw[h2];exact ty)⟩
 have gD:=d8.out;clear h1 ty
 go_upto_region 3 with(first
  |((with_reducible refine ab 59 _ zV (some 7) ?hgd ?ho ?hd ?_);(case hgd|ho|hd=>rfl);(intro b7 wa la Ba ea za))
  |((with_reducible refine aa 59 (.tmp 7) (.tmp 25) b7 Rec.zero.cells r.cells 59 Ba rfl aV (Rec.cells_one1 _) ?hgd ?ho ?hx ?hy ?_);(case hgd|ho|hx|hy=>rfl);(intro w3 B3 o3))
  |fail)
 have ec:Below w2.heap.size w2 w3:=o3.below (ea.mono la) la;have b2:=hid (c7.trans (ec.mono c7.size));have ca:=hid B3;have c3:=hid (cb.below b2.out);have c6:=hid (a5.below b2.out);have c0:=hid (show w.heap.size≤b7 from Nat.le_trans c7.size la);clear Ba B3 o3 ea la za ec;refine hb (fun T=>T.rangeAt b7 0 r.cells∧T.cell? ⟨fb,0,none⟩=some (.pointer (some ⟨i.vb,0,none⟩))∧T.cell? ⟨i.vb,5,none⟩=some (.pointer (some ⟨i.bb,0,none⟩))) (⟨ca.drew.range,c3.fnd.drew.cell (i:=0) rfl,c6.vol.drew.cell (i:=5) rfl⟩) fun d=> ?_
 obtain⟨wd,S⟩:∃T,T=w3.drew:=⟨_,rfl⟩;have H:Below w3.heap.size w3 wd:=by rw[S];exact(Below.refl _ _).drew
 have B:=hid (ca.below H ca.lt);have a8:=hid (c3.below H);have a1:=hid (c6.below H);have d5:=hid (b2.trans (H.mono b2.size));rw[←S];rw[←S]at d;clear S H;refine hp 0 ?_;refine hp 1 ?_;refine hp 2 ?_;refine hp 3 ?_;refine hp 4 ?_;refine hp 5 ?_;refine hp 6 ?_;refine hp 7 ?_;refine hp 8 ?_;refine hp 9 ?_;refine hp 10 ?_;refine hp 11 ?_;refine hp 12 ?_;refine hp 13 ?_;refine hp 14 ?_;refine hl 15 59 b7 0 (r.cells) (fun w h=>h.1) underlying59 aV ?_;refine hc 16 fun K s=> ?_
 go_simp
 refine(rI i.bb i.c2 i.m1 i.m2 i.m3 v.n v.first v.epoch v.now v.U v.L v.G b r _ a1.book a1.maps fd.out a1.bclock d6.out HN.out fr.out fn.out (u9 a1.out)).mono ?_
 rintro e we ⟨⟨rfl,n',U',L',G',ee,cl,eg,ef,ej⟩,co⟩;have d1:=hid ef;have d2:=hid ej;have cg:=hid (a1.booked (ep:=if r.kind=1 then v.epoch+1 else v.epoch) (now:=r.time) co ee cl eg);have cm:∀(x:Nat) (t:TypeId),Ty wd x t→t∉[193,188]→x∉[i.bb,i.c2,i.m1,i.m2,i.m3]:=fun x t hx ht=>a1.offBook hx ht
 have b3:=hid (a8.turned co (cm _ _ a8.fnd.ty (by decide)) (fun q hq=>cm _ _ (aN a8.cells hq) (by decide)) (fun q hq=>cm _ _ (aN a8.rows hq) (by decide)) (e9.out _ a1.out a8.gone));have W:=hid (co.blk B.out (cm _ _ B.ty (by decide)));have c5:=hid (show af (i.vb::i.bb::i.c2::i.m1::i.m2::i.m3::i.sv.ownBlock.toList) w we from(af.of_below d5.out (Nat.le_refl _)).trans (co.mono (by intro x hx;simp only[List.mem_cons,List.not_mem_nil,or_false]at hx ⊢;rcases hx with h|h|h|h|h<;>simp[h])));clear ee cl eg ef ej co cm
 (try go_wp2_with fail)
 refine s.out _ _ (⟨W.range,b3.fnd.cell (i:=0) rfl,cg.at'.vol.cell (i:=5) rfl⟩) fun _=> ?_
 clear s K d;rename_i d
 (try go_frame)
 refine hp 17 ?_;refine hp 18 ?_;refine hd ?_;clear d;have q0:=W.cell (i:=0) fo.out
 by_cases dg:r.kind=1
 ·rw[dg]at q0
  go_wp2_with (first
    |((with_reducible refine aj 59 (.tmp 7) b7 r.cells 59 _ W.out underlying59 rfl aV ?hgd ?ho ?hx ?_);(case hgd|ho|hx=>rfl))
    |fail)
  refine(d3.out _ b3.out dg).mono ?_
  rintro e wf ⟨rfl,cl⟩;have a4:=hid cl;clear cl q0;have X:=hid (W.below a4.out W.lt);have a9:=hid (b3.below a4.out);have R:=hid (cg.at'.below a4.out);have ce:=hid (c5.trans (af.of_below a4.out (Nat.le_refl _)));have Z:=hid a9.fnd;have bd:=hid R.vol;have cc:=hid R.sealed;have O:=hid (show i.sv.ownBlock≠some b7∧b7≠i.vb∧i.sv.ownBlock≠some fb∧fb≠i.vb from⟨fun e=>by have:=(aN a5.sealed e).lt;have:=c0.out;omega,fun e=>by have:=a5.vol.lt;have:=c0.out;omega,fun e=>absurd ((aN a5.sealed e).eq cb.fnd.ty) (by decide),fun e=>absurd ((e ▸ cb.fnd.ty).eq a5.vol.ty) (by decide)⟩)
  have a7:=hid (fun(T:World) (sv:Value) (ht:af (i.vb::i.sv.ownBlock.toList) wf T) (hv:ac T i.vb (jA {i with sv:=sv} v.key v.data) 104) (ho:T.ownsRow 0 61 9 sv (v.sealed.length+1) (dM v.sealed++(aD.cells ⟨r,t⟩))) (hn:dW wf i.sv.ownBlock sv.ownBlock)=>show IV w i v b fb m n cv lv cs bl D r t T from by
   have ds:=R.own (key:=v.key) (sv:=sv) (l:=v.sealed++[⟨r,t⟩]) ht hv (by rw[jS,List.length_append];exact ho) (fun k V=>hn.elim (fun h9=> .inl (by rw[←h9];exact V)) (fun h9=> .inr (h9 k V)));refine⟨sv,n',U',L',G',d1.out,d2.out,ds.at',a9.types ht (bQ.cons R.vol.ty (bQ.own R.sealed)) (by decide),ce.trans (ht.mono (by intro x hx;simp only[List.mem_cons,Option.mem_toList,Option.mem_def]at hx ⊢;rcases hx with h|h<;>simp[h])),fun x hx=> ?_⟩;exact hn.elim (fun h9=> .inl (by rw[←h9];exact hx)) (fun h9=> .inr (Nat.le_trans ce.size (h9 x hx))))
  go_upto_region 9 with fail;refine hb (fun T=>T.rangeAt b7 0 r.cells∧T.cell? ⟨fb,0,none⟩=some (.pointer (some ⟨i.vb,0,none⟩))) (⟨X.drew.range,Z.drew.cell (i:=0) rfl⟩) fun d=> ?_
  obtain⟨wd,S⟩:∃wd,wd=wf.drew:=⟨_,rfl⟩;have H:Below wf.heap.size wf wd:=by rw[S];exact(Below.refl _ _).drew
  have cf:=hid (af.refl (i.vb::(i.sv).ownBlock.toList) wf);have B:=hid (X.below H X.lt);have M:=hid (Z.below H Z.lt);have N:=hid (bd.below H bd.lt);have be:=hid (own_below H cc.out);have bm:=hid (cf.trans (af.of_below H (Nat.le_refl _)));rw[←S];rw[←S]at d;clear S H;obtain⟨i0,hi,cu,cw,cx⟩:=info_parts fg;refine hp 0 ?_;refine hp 1 ?_;refine hp 2 ?_;refine hp 3 ?_;refine hp 4 ?_;refine hp 5 ?_;refine hp 6 ?_;refine hp 7 ?_;refine hp 8 ?_;refine hp 9 ?_;refine hp 12 ?_;refine hl 11 59 b7 0 (r.cells) (fun w h=>h.1) underlying59 aV ?_;refine hu 13 61 (aD.cells ⟨r,t⟩) (parts:=#[(0, .tmp 67),(1, .tmp 68)]) (by refine Eq.trans ?_ (pY r t);kernel_rfl) ?_;refine hc2 10 14 (fun K s=> ?_) (fun K s=> ?_)
  ·have c4:wd.cell? ⟨i.vb,4,none⟩=some (i.sv):=N.cell (i:=4) rfl
   go_simp;clear c4
   (try go_wp2_with fail)
   refine s.out _ _ (⟨B.range,M.cell (i:=0) rfl⟩) fun _=> ?_
   clear s K d;rename_i d
   (try go_frame)
   refine hc 14 fun K s=> ?_
   refine dm 54 61 1 _ (aD.cells ⟨r,t⟩) (.agg (aD.cells ⟨Rec.zero,⟨#[]⟩⟩).toArray) 9 96 underlying54 fg (by omega) (by omega) rfl (by kernel_rfl) ?_;intro g8 w8 l8 B8 e8 z8;have p:Below wd.heap.size wd w8:=e8.mono l8;have bs:=hid B8;have C:=hid (B.below p B.lt);have E:=hid (M.below p M.lt);have F:=hid (N.below p N.lt);have P:=hid (own_below p be.out);have Q:=hid (bm.trans (af.of_below p (Nat.le_refl _)));clear B8 e8 z8 p l8
   (try go_wp2_with fail)
   refine s.out _ _ (⟨C.range,E.cell (i:=0) rfl⟩) fun _=> ?_
   clear s K d;rename_i d
   (try go_frame)
   refine hc 15 fun K s=> ?_
   refine cM _ _ 54 rfl i0 (.agg (aD.cells ⟨Rec.zero,⟨#[]⟩⟩).toArray) 96 underlying54 hi cu cw cx rfl (by decide) rfl P.out ⟨g8,0,none⟩ 1 1 (aD.cells ⟨r,t⟩) rfl rfl (bI bs.out) (fE _) (by have:=bk.out;show v.sealed.length+1≤maxLen;unfold maxLen;omega) (by have:=bk.out;show(v.sealed.length+1)*96≤140737488355328;omega) (Nat.zero_le _) ?_;intro v' w9 A j o;have f:w8.grownBy w9 (i.sv).ownBlock:=j;have u:dW w8 (i.sv).ownBlock v'.ownBlock:=o;clear j o;obtain⟨p9,q9,b1⟩:=az A;subst b1;have I:=hid (C.grown f (fun e=>O.out.1 e.symm));have J:=hid (E.grown f (fun e=>O.out.2.2.1 e.symm));have g:=hid (F.grown f (fun e=>absurd (show 61=104 from(aN P.out e.symm).eq F.ty) (by decide)));have aq:=hid A;have bt:=hid (u.back Q.size);have aA:=hid (Q.trans (af.of_grown f (fun k V=>by simp[V])));clear A f u
   (try go_wp2_with fail)
   refine s.out _ _ (⟨I.range,J.cell (i:=0) rfl⟩) fun _=> ?_
   clear s K d;rename_i d
   (try go_frame)
   refine hp 16 ?_;refine hp 17 ?_;have c4:=g.cell (i:=4) rfl;have f4:=g.free 4;refine hc 18 fun K s=> ?_
   go_simp;have Y:=hid (I.set_other (a:=⟨i.vb,4,none⟩) (fun e=>O.out.2.1 e) (.slice p9 (v.sealed.length+1) q9));have ad:=hid (J.set_other (a:=⟨i.vb,4,none⟩) (fun e=>O.out.2.2.2 e) (.slice p9 (v.sealed.length+1) q9));have an:=hid (g.set 4 (.slice p9 (v.sealed.length+1) q9));have a0:=hid (aA.setCell (b:=i.vb) (.inl (by simp)) 4 (.slice p9 (v.sealed.length+1) q9));have bv:=hid (ay aq.out ((af.refl [i.vb] w9).setCell (b:=i.vb) (.inl (by simp)) 4 (.slice p9 (v.sealed.length+1) q9)) (fun k V=>(aN aq.out V).notin (bQ.one g.ty) (by decide)));clear c4 f4
   (try go_wp2_with fail)
   refine s.out _ _ (⟨Y.range,ad.cell (i:=0) rfl⟩) fun _=> ?_
   clear s K d;rename_i d
   (try go_frame)
   refine hd ?_;clear d
   (try go_wp2_with fail)
   go_ret;exact⟨rfl,a7.out _ _ a0.out (an.ext rfl) bv.out bt.out⟩
  ·refine dm 54 61 1 _ (aD.cells ⟨r,t⟩) (.agg (aD.cells ⟨Rec.zero,⟨#[]⟩⟩).toArray) 9 96 underlying54 fg (by omega) (by omega) rfl (by kernel_rfl) ?_
   intro g8 w8 l8 B8 e8 z8;have p:Below wd.heap.size wd w8:=e8.mono l8;have bs:=hid B8;have C:=hid (B.below p B.lt);have E:=hid (M.below p M.lt);have F:=hid (N.below p N.lt);have P:=hid (own_below p be.out);have Q:=hid (bm.trans (af.of_below p (Nat.le_refl _)));clear B8 e8 z8 p l8
   (try go_wp2_with fail)
   refine s.out _ _ (⟨C.range,E.cell (i:=0) rfl⟩) fun _=> ?_
   clear s K d;rename_i d
   (try go_frame)
   refine hc 10 fun K s=> ?_
   have c4:w8.cell? ⟨i.vb,4,none⟩=some (i.sv):=F.cell (i:=4) rfl;go_simp;clear c4
   (try go_wp2_with fail)
   refine s.out _ _ (⟨C.range,E.cell (i:=0) rfl⟩) fun _=> ?_
   clear s K d;rename_i d
   (try go_frame)
   refine hc 15 fun K s=> ?_
   refine cM _ _ 54 rfl i0 (.agg (aD.cells ⟨Rec.zero,⟨#[]⟩⟩).toArray) 96 underlying54 hi cu cw cx rfl (by decide) rfl P.out ⟨g8,0,none⟩ 1 1 (aD.cells ⟨r,t⟩) rfl rfl (bI bs.out) (fE _) (by have:=bk.out;show v.sealed.length+1≤maxLen;unfold maxLen;omega) (by have:=bk.out;show(v.sealed.length+1)*96≤140737488355328;omega) (Nat.zero_le _) ?_;intro v' w9 A j o;have f:w8.grownBy w9 (i.sv).ownBlock:=j;have u:dW w8 (i.sv).ownBlock v'.ownBlock:=o;clear j o;obtain⟨p9,q9,b1⟩:=az A;subst b1;have I:=hid (C.grown f (fun e=>O.out.1 e.symm));have J:=hid (E.grown f (fun e=>O.out.2.2.1 e.symm));have g:=hid (F.grown f (fun e=>absurd (show 61=104 from(aN P.out e.symm).eq F.ty) (by decide)));have aq:=hid A;have bt:=hid (u.back Q.size);have aA:=hid (Q.trans (af.of_grown f (fun k V=>by simp[V])));clear A f u
   (try go_wp2_with fail)
   refine s.out _ _ (⟨I.range,J.cell (i:=0) rfl⟩) fun _=> ?_
   clear s K d;rename_i d
   (try go_frame)
   refine hp 16 ?_;refine hp 17 ?_;have c4:=g.cell (i:=4) rfl;have f4:=g.free 4;refine hc 18 fun K s=> ?_
   go_simp;have Y:=hid (I.set_other (a:=⟨i.vb,4,none⟩) (fun e=>O.out.2.1 e) (.slice p9 (v.sealed.length+1) q9));have ad:=hid (J.set_other (a:=⟨i.vb,4,none⟩) (fun e=>O.out.2.2.2 e) (.slice p9 (v.sealed.length+1) q9));have an:=hid (g.set 4 (.slice p9 (v.sealed.length+1) q9));have a0:=hid (aA.setCell (b:=i.vb) (.inl (by simp)) 4 (.slice p9 (v.sealed.length+1) q9));have bv:=hid (ay aq.out ((af.refl [i.vb] w9).setCell (b:=i.vb) (.inl (by simp)) 4 (.slice p9 (v.sealed.length+1) q9)) (fun k V=>(aN aq.out V).notin (bQ.one g.ty) (by decide)));clear c4 f4
   (try go_wp2_with fail)
   refine s.out _ _ (⟨Y.range,ad.cell (i:=0) rfl⟩) fun _=> ?_
   clear s K d;rename_i d
   (try go_frame)
   refine hd ?_;clear d
   (try go_wp2_with fail)
   go_ret;exact⟨rfl,a7.out _ _ a0.out (an.ext rfl) bv.out bt.out⟩
 ·have gw:(r.kind==1)=false:=beq_eq_false_iff_ne.2 dg
  obtain⟨wf,c1⟩:∃wf,wf=we:=⟨_,rfl⟩;have a4:=hid (show Below we.heap.size we wf from by rw[c1];exact Below.refl _ _);have q0:wf.cell? ⟨b7,0,none⟩=some (.int .i64 r.kind):=by rw[c1];exact q0
  rw[←c1];clear c1;have X:=hid (W.below a4.out W.lt);have a9:=hid (b3.below a4.out);have R:=hid (cg.at'.below a4.out);have ce:=hid (c5.trans (af.of_below a4.out (Nat.le_refl _)));have Z:=hid a9.fnd;have bd:=hid R.vol;have cc:=hid R.sealed;have O:=hid (show i.sv.ownBlock≠some b7∧b7≠i.vb∧i.sv.ownBlock≠some fb∧fb≠i.vb from⟨fun e=>by have:=(aN a5.sealed e).lt;have:=c0.out;omega,fun e=>by have:=a5.vol.lt;have:=c0.out;omega,fun e=>absurd ((aN a5.sealed e).eq cb.fnd.ty) (by decide),fun e=>absurd ((e ▸ cb.fnd.ty).eq a5.vol.ty) (by decide)⟩)
  have a7:=hid (fun(T:World) (sv:Value) (ht:af (i.vb::i.sv.ownBlock.toList) wf T) (hv:ac T i.vb (jA {i with sv:=sv} v.key v.data) 104) (ho:T.ownsRow 0 61 9 sv (v.sealed.length+1) (dM v.sealed++(aD.cells ⟨r,t⟩))) (hn:dW wf i.sv.ownBlock sv.ownBlock)=>show IV w i v b fb m n cv lv cs bl D r t T from by
   have ds:=R.own (key:=v.key) (sv:=sv) (l:=v.sealed++[⟨r,t⟩]) ht hv (by rw[jS,List.length_append];exact ho) (fun k V=>hn.elim (fun h9=> .inl (by rw[←h9];exact V)) (fun h9=> .inr (h9 k V)));refine⟨sv,n',U',L',G',d1.out,d2.out,ds.at',a9.types ht (bQ.cons R.vol.ty (bQ.own R.sealed)) (by decide),ce.trans (ht.mono (by intro x hx;simp only[List.mem_cons,Option.mem_toList,Option.mem_def]at hx ⊢;rcases hx with h|h<;>simp[h])),fun x hx=> ?_⟩;exact hn.elim (fun h9=> .inl (by rw[←h9];exact hx)) (fun h9=> .inr (Nat.le_trans ce.size (h9 x hx))))
  go_upto_region 9 with fail;refine hb (fun T=>T.rangeAt b7 0 r.cells∧T.cell? ⟨fb,0,none⟩=some (.pointer (some ⟨i.vb,0,none⟩))) (⟨X.drew.range,Z.drew.cell (i:=0) rfl⟩) fun d=> ?_
  obtain⟨wd,S⟩:∃wd,wd=wf.drew:=⟨_,rfl⟩;have H:Below wf.heap.size wf wd:=by rw[S];exact(Below.refl _ _).drew
  have cf:=hid (af.refl (i.vb::(i.sv).ownBlock.toList) wf);have B:=hid (X.below H X.lt);have M:=hid (Z.below H Z.lt);have N:=hid (bd.below H bd.lt);have be:=hid (own_below H cc.out);have bm:=hid (cf.trans (af.of_below H (Nat.le_refl _)));rw[←S];rw[←S]at d;clear S H;obtain⟨i0,hi,cu,cw,cx⟩:=info_parts fg;refine hp 0 ?_;refine hp 1 ?_;refine hp 2 ?_;refine hp 3 ?_;refine hp 4 ?_;refine hp 5 ?_;refine hp 6 ?_;refine hp 7 ?_;refine hp 8 ?_;refine hp 9 ?_;refine hp 12 ?_;refine hl 11 59 b7 0 (r.cells) (fun w h=>h.1) underlying59 aV ?_;refine hu 13 61 (aD.cells ⟨r,t⟩) (parts:=#[(0, .tmp 67),(1, .tmp 68)]) (by refine Eq.trans ?_ (pY r t);kernel_rfl) ?_;refine hc2 10 14 (fun K s=> ?_) (fun K s=> ?_)
  ·have c4:wd.cell? ⟨i.vb,4,none⟩=some (i.sv):=N.cell (i:=4) rfl
   go_simp;clear c4
   (try go_wp2_with fail)
   refine s.out _ _ (⟨B.range,M.cell (i:=0) rfl⟩) fun _=> ?_
   clear s K d;rename_i d
   (try go_frame)
   refine hc 14 fun K s=> ?_
   refine dm 54 61 1 _ (aD.cells ⟨r,t⟩) (.agg (aD.cells ⟨Rec.zero,⟨#[]⟩⟩).toArray) 9 96 underlying54 fg (by omega) (by omega) rfl (by kernel_rfl) ?_;intro g8 w8 l8 B8 e8 z8;have p:Below wd.heap.size wd w8:=e8.mono l8;have bs:=hid B8;have C:=hid (B.below p B.lt);have E:=hid (M.below p M.lt);have F:=hid (N.below p N.lt);have P:=hid (own_below p be.out);have Q:=hid (bm.trans (af.of_below p (Nat.le_refl _)));clear B8 e8 z8 p l8
   (try go_wp2_with fail)
   refine s.out _ _ (⟨C.range,E.cell (i:=0) rfl⟩) fun _=> ?_
   clear s K d;rename_i d
   (try go_frame)
   refine hc 15 fun K s=> ?_
   refine cM _ _ 54 rfl i0 (.agg (aD.cells ⟨Rec.zero,⟨#[]⟩⟩).toArray) 96 underlying54 hi cu cw cx rfl (by decide) rfl P.out ⟨g8,0,none⟩ 1 1 (aD.cells ⟨r,t⟩) rfl rfl (bI bs.out) (fE _) (by have:=bk.out;show v.sealed.length+1≤maxLen;unfold maxLen;omega) (by have:=bk.out;show(v.sealed.length+1)*96≤140737488355328;omega) (Nat.zero_le _) ?_;intro v' w9 A j o;have f:w8.grownBy w9 (i.sv).ownBlock:=j;have u:dW w8 (i.sv).ownBlock v'.ownBlock:=o;clear j o;obtain⟨p9,q9,b1⟩:=az A;subst b1;have I:=hid (C.grown f (fun e=>O.out.1 e.symm));have J:=hid (E.grown f (fun e=>O.out.2.2.1 e.symm));have g:=hid (F.grown f (fun e=>absurd (show 61=104 from(aN P.out e.symm).eq F.ty) (by decide)));have aq:=hid A;have bt:=hid (u.back Q.size);have aA:=hid (Q.trans (af.of_grown f (fun k V=>by simp[V])));clear A f u
   (try go_wp2_with fail)
   refine s.out _ _ (⟨I.range,J.cell (i:=0) rfl⟩) fun _=> ?_
   clear s K d;rename_i d
   (try go_frame)
   refine hp 16 ?_;refine hp 17 ?_;have c4:=g.cell (i:=4) rfl;have f4:=g.free 4;refine hc 18 fun K s=> ?_
   go_simp;have Y:=hid (I.set_other (a:=⟨i.vb,4,none⟩) (fun e=>O.out.2.1 e) (.slice p9 (v.sealed.length+1) q9));have ad:=hid (J.set_other (a:=⟨i.vb,4,none⟩) (fun e=>O.out.2.2.2 e) (.slice p9 (v.sealed.length+1) q9));have an:=hid (g.set 4 (.slice p9 (v.sealed.length+1) q9));have a0:=hid (aA.setCell (b:=i.vb) (.inl (by simp)) 4 (.slice p9 (v.sealed.length+1) q9));have bv:=hid (ay aq.out ((af.refl [i.vb] w9).setCell (b:=i.vb) (.inl (by simp)) 4 (.slice p9 (v.sealed.length+1) q9)) (fun k V=>(aN aq.out V).notin (bQ.one g.ty) (by decide)));clear c4 f4
   (try go_wp2_with fail)
   refine s.out _ _ (⟨Y.range,ad.cell (i:=0) rfl⟩) fun _=> ?_
   clear s K d;rename_i d
   (try go_frame)
   refine hd ?_;clear d
   (try go_wp2_with fail)
   go_ret;exact⟨rfl,a7.out _ _ a0.out (an.ext rfl) bv.out bt.out⟩
  ·refine dm 54 61 1 _ (aD.cells ⟨r,t⟩) (.agg (aD.cells ⟨Rec.zero,⟨#[]⟩⟩).toArray) 9 96 underlying54 fg (by omega) (by omega) rfl (by kernel_rfl) ?_
   intro g8 w8 l8 B8 e8 z8;have p:Below wd.heap.size wd w8:=e8.mono l8;have bs:=hid B8;have C:=hid (B.below p B.lt);have E:=hid (M.below p M.lt);have F:=hid (N.below p N.lt);have P:=hid (own_below p be.out);have Q:=hid (bm.trans (af.of_below p (Nat.le_refl _)));clear B8 e8 z8 p l8
   (try go_wp2_with fail)
   refine s.out _ _ (⟨C.range,E.cell (i:=0) rfl⟩) fun _=> ?_
   clear s K d;rename_i d
   (try go_frame)
   refine hc 10 fun K s=> ?_
   have c4:w8.cell? ⟨i.vb,4,none⟩=some (i.sv):=F.cell (i:=4) rfl;go_simp;clear c4
   (try go_wp2_with fail)
   refine s.out _ _ (⟨C.range,E.cell (i:=0) rfl⟩) fun _=> ?_
   clear s K d;rename_i d
   (try go_frame)
   refine hc 15 fun K s=> ?_
   refine cM _ _ 54 rfl i0 (.agg (aD.cells ⟨Rec.zero,⟨#[]⟩⟩).toArray) 96 underlying54 hi cu cw cx rfl (by decide) rfl P.out ⟨g8,0,none⟩ 1 1 (aD.cells ⟨r,t⟩) rfl rfl (bI bs.out) (fE _) (by have:=bk.out;show v.sealed.length+1≤maxLen;unfold maxLen;omega) (by have:=bk.out;show(v.sealed.length+1)*96≤140737488355328;omega) (Nat.zero_le _) ?_;intro v' w9 A j o;have f:w8.grownBy w9 (i.sv).ownBlock:=j;have u:dW w8 (i.sv).ownBlock v'.ownBlock:=o;clear j o;obtain⟨p9,q9,b1⟩:=az A;subst b1;have I:=hid (C.grown f (fun e=>O.out.1 e.symm));have J:=hid (E.grown f (fun e=>O.out.2.2.1 e.symm));have g:=hid (F.grown f (fun e=>absurd (show 61=104 from(aN P.out e.symm).eq F.ty) (by decide)));have aq:=hid A;have bt:=hid (u.back Q.size);have aA:=hid (Q.trans (af.of_grown f (fun k V=>by simp[V])));clear A f u
   (try go_wp2_with fail)
   refine s.out _ _ (⟨I.range,J.cell (i:=0) rfl⟩) fun _=> ?_
   clear s K d;rename_i d
   (try go_frame)
   refine hp 16 ?_;refine hp 17 ?_;have c4:=g.cell (i:=4) rfl;have f4:=g.free 4;refine hc 18 fun K s=> ?_
   go_simp;have Y:=hid (I.set_other (a:=⟨i.vb,4,none⟩) (fun e=>O.out.2.1 e) (.slice p9 (v.sealed.length+1) q9));have ad:=hid (J.set_other (a:=⟨i.vb,4,none⟩) (fun e=>O.out.2.2.2 e) (.slice p9 (v.sealed.length+1) q9));have an:=hid (g.set 4 (.slice p9 (v.sealed.length+1) q9));have a0:=hid (aA.setCell (b:=i.vb) (.inl (by simp)) 4 (.slice p9 (v.sealed.length+1) q9));have bv:=hid (ay aq.out ((af.refl [i.vb] w9).setCell (b:=i.vb) (.inl (by simp)) 4 (.slice p9 (v.sealed.length+1) q9)) (fun k V=>(aN aq.out V).notin (bQ.one g.ty) (by decide)));clear c4 f4
   (try go_wp2_with fail)
   refine s.out _ _ (⟨Y.range,ad.cell (i:=0) rfl⟩) fun _=> ?_
   clear s K d;rename_i d
   (try go_frame)
   refine hd ?_;clear d
   (try go_wp2_with fail)
   go_ret;exact⟨rfl,a7.out _ _ a0.out (an.ext rfl) bv.out bt.out⟩
structure gG (first lbas:Int) (log:List LE) (S:Nat→RS) (bl:List ByteArray):Prop where
 len:bl.length=log.length
 few:log.length≤1020
 rep:vx first log S
 txt:∀(k:Nat) e,log[k]?=some e→∃b,bl[k]?=some b∧oq b e.ent
 cell:∀(k:Nat) x c,log[k]?=some (LE.cell x c)→c.slot=(k:Int)∧c.epoch=x.epoch∧c.lba=x.lba∧c.lba<lbas
 is:∃key b vers,bY log key b vers
theorem gG.cellOk {first a:Int} {log:List LE} {S:Nat→RS} {d:List ByteArray} (h:gG first a log S d) {k:Nat} {x:AV} {c:ak} (f:log[k]?=some (LE.cell x c)):bh c:=by
 obtain⟨b,_,e⟩:=h.txt k _ f;exact e.1
theorem uA {log:List LE} {k:Nat} {x:AV} {c:ak} (h:log[k]?=some (LE.cell x c)):cB (log.take (k+1))=cB (log.take k)++[c]:=by
 obtain⟨a,b⟩:=List.getElem?_eq_some_iff.1 h;unfold cB;rw[List.take_succ_eq_append_getElem a,List.filterMap_append,b]
 rfl
theorem xh {log:List LE} {k:Nat} {s:ByteArray} (h:log[k]?=some (LE.held s)):cB (log.take (k+1))=cB (log.take k):=by
 obtain⟨a,b⟩:=List.getElem?_eq_some_iff.1 h;unfold cB;rw[List.take_succ_eq_append_getElem a,List.filterMap_append,b]
 show _++[]= _
 rw[List.append_nil]
theorem qD (log:List LE) (k:Nat):(cB (log.take k)).length≤k:=by
 unfold cB;refine Nat.le_trans (List.length_filterMap_le _ _) ?_;rw[List.length_take];omega
theorem xi {log:List LE} {c:ak} (h:c∈cB log):∃(k:Nat) (x:AV),log[k]?=some (LE.cell x c):=by
 unfold cB at h;obtain⟨e,a,hc⟩:=List.mem_filterMap.1 h
 cases e with
 |held s=>cases hc
 |cell x d=>
  injection hc with hc
  subst hc;obtain⟨k,b⟩:=List.mem_iff_getElem?.1 a;exact⟨k,x,b⟩
theorem take_at {α:Type} {l:List α} {k j:Nat} {e:α} (h:(l.take k)[j]?=some e):j<k∧l[j]?=some e:=by
 rw[List.getElem?_take]at h
 split at h
 ·exact⟨by assumption,h⟩
 ·cases h
theorem gG.cells {first a:Int} {log:List LE} {S:Nat→RS} {b:List ByteArray} (h:gG first a log S b) (k j:Nat) (c:ak) (hc:(cB (log.take k))[j]?=some c):bh c:=by
 obtain⟨q,x,d⟩:=xi (List.mem_iff_getElem?.2 ⟨j,hc⟩);exact h.cellOk (take_at d).2
theorem vx.lens {first:Int} {log:List LE} {S:Nat→RS} (h:vx first log S):∀k,k≤log.length→(S k).vers.length≤k∧(S k).sealed.length≤k
 |0,_=>by rw[h.zero];exact⟨Nat.le_refl _,Nat.le_refl _⟩
 |k+1,hk=>by
  obtain⟨e,d⟩:=h.lens k (by omega);have a:log[k]?=some log[k]:=List.getElem?_eq_getElem (by omega)
  cases he:log[k]with
  |held s=>
   rw[he]at a;obtain⟨r,t,_,_,b⟩:=h.held k s a;rw[b];refine⟨Nat.le_succ_of_le e, ?_⟩
   show((S k).sealed++[_]).length≤_
   rw[List.length_append];simp;exact d
  |cell x c=>
   rw[he]at a;obtain⟨_,b⟩:=h.cell k x c a;rw[b];refine⟨?_,Nat.le_succ_of_le d⟩
   show(eC _ _).length≤_
   rw[kO];omega
theorem gG.asks {first c:Int} {log:List LE} {S:Nat→RS} {l:List ByteArray} (h:gG first c log S l) {k:Nat} (f:k≤log.length) (lba ep:Int):
  (∀(i j:Nat) (a d:ag),(S k).vers[i]?=some a→(S k).vers[j]?=some d→i≤j→cL d ⟨lba,ep,(k:Int)⟩<0→cL a ⟨lba,ep,(k:Int)⟩<0)∧∀(t:Nat) (x:ag),(S k).vers[t]?=some x→cL x ⟨lba,ep,(k:Int)⟩≠0:=by
 obtain⟨key,b,g,m⟩:=h.is;have e:=(h.rep.is m k f).asks lba ep;rw[List.length_take,Nat.min_eq_left f]at e;exact e
theorem IW {cs:List ak} {e:Int} (h:jz cs e=false):∀c∈cs,c.epoch=e→c.gone=false:=fun c hc a=>by
 unfold jz at h;rw[List.any_eq_false]at h
 have:=h c hc
 simp only[a,decide_true,Bool.true_and,Bool.not_eq_true]at this;exact this
theorem GM {first a now:Int} {b:av} {r:Rec} (h:cQ first a now b r=0):r.epoch=a∧now≤r.time:=by
 unfold cQ at h
 split at h
 ·cases h
 ·split at h
  ·cases h
  ·rename_i d
   exact⟨Classical.not_not.1 (fun c=>d (.inl c)),Int.not_lt.1 (fun c=>d (.inr c))⟩
theorem gG.closes {first a:Int} {log:List LE} {S:Nat→RS} {m:List ByteArray} (h:gG first a log S m) {k:Nat} (q:k≤log.length) {r:Rec} {t:ByteArray} (f:yF first (log.take k) (S k) r t) (g:r.kind=1):
  r.count=(Maps.size (dV r.epoch (cI (cB (log.take k)) r.epoch)):Int)∧(jz (cB (log.take k)) r.epoch=false→ah r.root (lK (bu (cp r.epoch (cI (cB (log.take k)) r.epoch)) 4096))):=by
 obtain⟨key,b,l,p⟩:=h.is;have i:=h.rep.is p k q
 have hl:∀(j:Nat) x c,(log.take k)[j]?=some (LE.cell x c)→0≤c.lba∧c.lba<4096:=fun j x c e=>by
  have:=h.cellOk (take_at e).2
  have s:=this.l0;have u:=this.l1;omega
 obtain⟨n,_⟩:=GM f.may;rw[n,GH i hl,GI i hl];refine⟨f.count g,fun o=>f.root g (fun j x c e d=>IW o c ?_ d)⟩;unfold cB;exact List.mem_filterMap.2 ⟨_,List.mem_iff_getElem?.2 ⟨j,e⟩,rfl⟩
def rS (v:ai) (s:RS) (n:Nat) (U L G:DataW Unit):ai:={v with epoch:=s.epoch,now:=s.now,sealed:=s.sealed,vers:=s.vers,n:=n,U:=U,L:=L,G:=G}
def jn (w0:World) (i:ap) (v:ai) (fb m:Nat) (lv:Value) (bl:List ByteArray) (log:List LE) (S:Nat→RS) (k:Nat) (w:World):Prop:=
 ∃(xv sv cv:Value) (n nb:Nat) (U L G D:DataW Unit),br U L G (S k).b∧nb≤k∧n≤k∧iQ D (cB (log.take k))∧al w {i with xv:=xv,sv:=sv} (rS v (S k) nb U L G)∧bU w i.vb fb m n cv lv (cB (log.take k)) bl D∧Below w0.heap.size w0 w∧
  (∀x,xv.ownBlock=some x∨sv.ownBlock=some x∨cv.ownBlock=some x→w0.heap.size≤x)
theorem jn.below {w0 w w':World} {i:ap} {v:ai} {b m:Nat} {d:Value} {a:List ByteArray} {log:List LE} {S:Nat→RS} {k:Nat} (h:jn w0 i v b m d a log S k w) (hb:Below w.heap.size w w'):jn w0 i v b m d a log S k w':=by
 obtain⟨xv,sv,e,n,nb,U,L,G,D,f,g,j,l,o,p,c,q⟩:=h;exact⟨xv,sv,e,n,nb,U,L,G,D,f,g,j,l,o.below hb,p.below hb,c.trans (hb.mono c.size),q⟩
theorem jn.cell {w0 w:World} {i:ap} {v:ai} {g m:Nat} {A:Value} {f:List ByteArray} {log:List LE} {S:Nat→RS} {k:Nat} (h:jn w0 i v g m A f log S k w) (l:gG v.first v.last.geo.lbas log S f) (Z:m≠i.m1∧m≠i.m2∧m≠i.m3)
  (d:∀x,x∈[m,g,i.vb,i.xb,i.bb,i.c2,i.m1,i.m2,i.m3]→w0.heap.size≤x) {x:AV} {c:ak} {a:ByteArray} (o:log[k]?=some (LE.cell x c)) (s:f[k]?=some a) (I:oq a (.cell c)):
  Calls prog 203 #[.pointer (some ⟨g,0,none⟩), .int .i64 (k:Int)] w fun e w'=>e= .returned (.int .i64 0)∧jn w0 i v g m A f log S (k+1) w':=by
 obtain⟨xv,sv,K,n,nb,U,L,G,D,V,h2,h3,W,X,Y,q,j⟩:=h;have p:=(List.getElem?_eq_some_iff.1 o).1;have F:=l.few;obtain⟨hs,E,t,u⟩:=l.cell k x c o;obtain⟨z,C⟩:=l.rep.cell k x c o;have b:=l.asks (Nat.le_of_lt p) c.lba c.epoch;have H:=l.rep.lens k (Nat.le_of_lt p)
 refine(En {i with xv:=xv,sv:=sv} (rS v (S k) nb U L G) g m n K A _ f D k c a w X Y Z W s I.1 I.2 hs (E.trans z) u (by omega) (by have:=qD log k;omega) (by show(S k).vers.length≤4095;omega) b.1 b.2).mono ?_
 rintro e w' ⟨rfl,r,B,J,N,O,P,Q,R,T⟩;refine⟨rfl,B,sv,r,n+1,nb,U,L,G,J, ?_,by omega,by omega, ?_, ?_, ?_, ?_, ?_⟩
 ·rw[C];exact V
 ·rw[uA o];exact N
 ·rw[C]
  have M:rS v ((S k).cell x k) nb U L G={rS v (S k) nb U L G with vers:=eC (S k).vers ⟨c.lba,c.epoch,(k:Int)⟩}:=by rw[t,E];rfl
  rw[M];exact O
 ·rw[uA o];exact P
 ·refine Q.below q (fun y hy=> ?_) q.size
  simp only[List.mem_cons,List.mem_append,Option.mem_toList,Option.mem_def]at hy
  rcases hy with hy|hy|hy|hy|hy
  ·exact d y (by simp[hy])
  ·exact d y (by simp[hy])
  ·exact d y (by simp[hy])
  ·exact j y (.inr (.inr hy))
  ·exact j y (.inl hy)
 ·rintro y (hy|hy|hy)
  ·exact(T y hy).elim (fun h=>j y (.inl h)) (fun h=>Nat.le_trans q.size h)
  ·exact j y (.inr (.inl hy))
  ·exact(R y hy).elim (fun h=>j y (.inr (.inr h))) (fun h=>Nat.le_trans q.size h)
theorem jn.held {w0 w:World} {i:ap} {v:ai} {g m:Nat} {F:Value} {f:List ByteArray} {log:List LE} {S:Nat→RS} {k:Nat} (h:jn w0 i v g m F f log S k w) (j:gG v.first v.last.geo.lbas log S f) (hm:m≠i.m1∧m≠i.m2∧m≠i.m3) (C:dU)
  (c:∀x,x∈[m,g,i.vb,i.xb,i.bb,i.c2,i.m1,i.m2,i.m3]→w0.heap.size≤x) {s a:ByteArray} (u:log[k]?=some (LE.held s)) (A:f[k]?=some a) (E:oq a (.held s)):
  Calls prog 204 #[.pointer (some ⟨g,0,none⟩), .int .i64 (k:Int)] w fun e w'=>e= .returned (.int .i64 0)∧jn w0 i v g m F f log S (k+1) w':=by
 obtain⟨xv,sv,I,n,nb,U,L,G,D,d,h2,h3,J,Z,h6,z,q⟩:=h;have o:=(List.getElem?_eq_some_iff.1 u).1;have M:=j.few;obtain⟨r,t,rfl,B,K⟩:=j.rep.held k s u;have N:=j.rep.lens k (Nat.le_of_lt o);have l:=fun d=>j.closes (Nat.le_of_lt o) B d
 refine(zY {i with xv:=xv,sv:=sv} (rS v (S k) nb U L G) (S k).b g m n I F _ f D k r t a w Z h6 hm J A E.1 E.2.1 E.2.2 B.tag d B.may (by show nb≤65536;omega) C (by show(S k).sealed.length≤1048575;omega) (j.cells k) (by have:=qD log k;omega) (fun d=>(l d).1) (fun d=>(l d).2)).mono ?_
 rintro e w' ⟨rfl,H,p,Q,P,O,R,T,V,W,X,Y⟩;refine⟨rfl,xv,H,I,n,p,Q,P,O,D, ?_, ?_,by omega, ?_, ?_, ?_, ?_, ?_⟩
 ·rw[K];exact R
 ·have:p≤nb+1:=T
  omega
 ·rw[xh u];exact J
 ·rw[K];exact V
 ·rw[xh u];exact W
 ·refine X.below z (fun y hy=> ?_) z.size
  simp only[List.mem_cons,Option.mem_toList,Option.mem_def]at hy
  rcases hy with hy|hy|hy|hy|hy|hy|hy
  ·exact c y (by simp[hy])
  ·exact c y (by simp[hy])
  ·exact c y (by simp[hy])
  ·exact c y (by simp[hy])
  ·exact c y (by simp[hy])
  ·exact c y (by simp[hy])
  ·exact q y (.inr (.inl hy))
 ·rintro y (hy|hy|hy)
  ·exact q y (.inl hy)
  ·exact(Y y hy).elim (fun h=>q y (.inr (.inl h))) (fun h=>Nat.le_trans z.size h)
  ·exact q y (.inr (.inr hy))
theorem GN (w0:World) (i:ap) (v:ai) (l m:Nat) (B:Value) (j:List ByteArray) (log:List LE) (S:Nat→RS) (w:World) (h:jn w0 i v l m B j log S 0 w) (R:gG v.first v.last.geo.lbas log S j) (hm:m≠i.m1∧m≠i.m2∧m≠i.m3) (I:dU)
  (H:∀x,x∈[m,l,i.vb,i.xb,i.bb,i.c2,i.m1,i.m2,i.m3]→w0.heap.size≤x):
  Calls prog 123 #[.pointer (some ⟨l,0,none⟩)] w fun e w'=>e= .returned (.int .i64 0)∧jn w0 i v l m B j log S log.length w':=by
 obtain⟨q,L⟩:∃q,j.length=q:=⟨_,rfl⟩;have HQ:=hid L;have t:=hid (show q=log.length from L.symm.trans R.len);have HA:=hid h;have K:=hid R;have X:=hid hm;have P:=hid I;have D:=hid H
 obtain⟨ps,pc,A⟩:∃(p:Option Addr) (c:Nat),B= .slice p q c:=by
  obtain⟨_,_,_,_,_,_,_,_,_,_,_,_,_,_,F,_,_⟩:=h;rw[←L];exact az F.rows
 have N:=hid A
 have f3:w.cell? ⟨l,3,none⟩=some (.slice ps q pc):=by
  obtain⟨_,_,_,_,_,_,_,_,_,_,_,_,_,_,F,_,_⟩:=h;rw[←A];exact F.fnd.cell (i:=3) rfl
 clear h R hm I H L A;go_enter func123,ntmps123;go_wp2_with fail;go_step3;go_wp2_with fail;go_step3;go_wp2_with fail;go_loopw [12] (fun x wr=>∃k:Nat,k≤q∧x= .int .i64 (k:Int)∧Hid (jn w0 i v l m B j log S k wr)) (fun x _=>q-(intOf x).toNat)
 case atStart=>exact⟨0,Nat.zero_le _,rfl,HA⟩
 case round=>
  obtain⟨k,hk,rfl,O⟩:=hrel;have a9:q≤1020:=by have:=K.few;have:=t.out;omega
  clear f3
  by_cases a8:k<q
  ·have ad:(k:Int)<(q:Int):=by omega
   obtain⟨e,T⟩:∃e,log[k]?=some e:=⟨_,List.getElem?_eq_getElem (by have:=t.out;omega)⟩;obtain⟨d,n,u⟩:=K.txt k e T
   have f:wr.ownsRow 0 9 1 (.slice ps q pc) q (j.map .string):=by
    obtain⟨_,_,_,_,_,_,_,_,_,_,_,_,_,_,F,_,_⟩:=O.out;have Y:=F.rows;rw[N.out,HQ.out]at Y;exact Y
   obtain⟨lg,a4,z,y,_,_,Z⟩:=ba f (by omega)
   injection y with y hnn hcc
   subst y hcc;clear hnn f;have ck:wr.cell? ⟨lg,k,none⟩=some (.string d):=Z.cell (i:=k) (by rw[List.getElem?_append_left (by rw[List.length_map];exact(List.getElem?_eq_some_iff.1 n).1),List.getElem?_map,n];rfl);have Q:=hid u;have C:=hid (fun(J:World)=>Em e.ent d J u);have W:=hid n;have M:=hid T;clear Z u n T;go_wp2_with fail
   refine(C.out _).mono ?_
   rintro e2 w2 ⟨rfl,G⟩;have r:=hid (O.below G);clear G ck
   cases e with
   |held s=>
    dsimp only[LE.ent,Ej]
    have E:=hid (fun(J:World) (V:jn w0 i v l m B j log S k J)=>V.held K.out X.out P.out D.out M.out W.out Q.out);go_wp2_with fail
    refine(E.out _ r.out).mono ?_
    rintro e w3 ⟨rfl,a⟩;have b:=hid a;clear a;go_wp2_with fail;go_roundw
    case rel=>exact⟨k+1,by omega,by go_num,b⟩
    case measure=>simp[intOf];omega
   |cell x c=>
    have o:=hid (fun(J:World) (V:jn w0 i v l m B j log S k J)=>V.cell K.out X.out D.out M.out W.out Q.out)
    dsimp only[LE.ent,Ej]
    clear M Q C;obtain⟨gn,U⟩:∃g,c.gone=g:=⟨_,rfl⟩;rw[U]
    cases gn with
    |true=>
     rw[if_pos rfl];go_wp2_with fail
     refine(o.out _ r.out).mono ?_
     rintro e w3 ⟨rfl,a⟩;have b:=hid a;clear a;go_wp2_with fail;go_roundw
     case rel=>exact⟨k+1,by omega,by go_num,b⟩
     case measure=>simp[intOf];omega
    |false=>
     rw[if_neg (by decide)];go_wp2_with fail
     refine(o.out _ r.out).mono ?_
     rintro e w3 ⟨rfl,a⟩;have b:=hid a;clear a;go_wp2_with fail;go_roundw
     case rel=>exact⟨k+1,by omega,by go_num,b⟩
     case measure=>simp[intOf];omega
  ·obtain rfl:k=q:=by omega
   have HF:=hid (show jn w0 i v l m B j log S log.length wr from by rw[←t.out];exact O.out);go_wp2_with fail;rw[Exit.noGoto_ret];go_ret;exact⟨rfl,HF.out⟩
end Go.Proofs.YtadooplpfhdhcaaGreat
