/- A finder (chapter 26): what it has of memory; it takes a cell. An epoch's cells, and their leaves (chapters 16, 17 and 26), in plain words. No program in sight. -/
import Derived.Test.YtadooplpfhdhcaaGreatQ34
import Derived.Test.YtadooplpfhdhcaaGreatQ23
import Derived.Test.YtadooplpfhdhcaaGreatQ27
import Derived.Test.YtadooplpfhdhcaaGreatQ26
import Derived.Test.YtadooplpfhdhcaaGreatQ7
import Derived.Test.YtadooplpfhdhcaaGreatQ31
import Derived.Test.YtadooplpfhdhcaaGreatQ30
import Derived.Test.YtadooplpfhdhcaaGreatQ32
set_option linter.unusedSimpArgs false
set_option linter.unusedVariables false
set_option maxRecDepth 100000
set_option maxHeartbeats 4000000
namespace Go.Proofs.YtadooplpfhdhcaaGreat
open Go Go.RowKit Go.Maps Go.WideMaps
open Go.Lib (hid)
open Go.Proofs.Tryz
theorem sL:(prog.info? 134).map (fun i=>(i.zero,i.size,i.bytes))=some (some (.agg cC.toArray),5,48):=by kernel_rfl
def eR (l:List ak):List Value:=l.flatMap ak.cells
theorem rQ (l:List ak) (c:ak):eR (l++[c])=eR l++c.cells:=by simp[eR]
structure bU (w:World) (vb fb m n:Nat) (cv lv:Value) (cs:List ak) (bl:List ByteArray) (D:DataW Unit):Prop where
 fnd:ac w fb [.pointer (some ⟨vb,0,none⟩),cv, .map (some m),lv] 205
 cells:w.ownsRow 0 134 5 cv cs.length (eR cs)
 rows:w.ownsRow 0 9 1 lv bl.length (bl.map .string)
 gone:w.ownsMap prog 3 (plainElem prog 4) m n D
theorem bU.turned {S:List Nat} {w f:World} {e b m n:Nat} {a c:Value} {cs:List ak} {d:List ByteArray} {D:DataW Unit} (h:bU w e b m n a c cs d D) (t:af S w f) (g:b∉S) (i:∀k,a.ownBlock=some k→k∉S) (j:∀k,c.ownBlock=some k→k∉S) (l:m∉S):bU f e b m n a c cs d D:=
 ⟨t.blk h.fnd g,ay h.cells t i,ay h.rows t j,km h.gone t l⟩
theorem bU.below {w f:World} {e c m n:Nat} {b d:Value} {cs:List ak} {a:List ByteArray} {D:DataW Unit} (h:bU w e c m n b d cs a D) (hb:Below w.heap.size w f):bU f e c m n b d cs a D:=
 h.turned (S:=[]) (af.of_below hb (Nat.le_refl _)) (by simp) (by simp) (by simp) (by simp)
theorem bU.types {S:List Nat} {T:List TypeId} {w j:World} {i f m n:Nat} {e g:Value} {cs:List ak} {d:List ByteArray} {D:DataW Unit} (h:bU w i f m n e g cs d D) (t:af S w j) (a:bQ w S T) (b:205∉T∧134∉T∧9∉T):bU j i f m n e g cs d D:=
 h.turned t (h.fnd.ty.notin a b.1) (fun k c=>(aN h.cells c).notin a b.2.1) (fun k c=>(aN h.rows c).notin a b.2.2) (kT h.gone a)
theorem bU.off {w:World} {i c m n:Nat} {b g:Value} {cs:List ak} {f:List ByteArray} {D:DataW Unit} (h:bU w i c m n b g cs f D) {x:Nat} {t:TypeId} (a:Ty w x t) (d:t≠205∧t≠134):x∉m::c::b.ownBlock.toList:=by
 simp only[List.mem_cons,Option.mem_toList,Option.mem_def,not_or];exact⟨fun e=>df h.gone (e ▸ a),fun e=>d.1 ((e ▸ a).eq h.fnd.ty),fun e=>d.2 (a.eq (aN h.cells e))⟩
theorem al.finds {S:List Nat} {w k:World} {i:ap} {v:ai} {j m n:Nat} {g p:Value} {cs:List ak} {l:List ByteArray} {D:DataW Unit} (h:al w i v) (a:bU w i.vb j m n g p cs l D) (d:m≠i.m1∧m≠i.m2∧m≠i.m3) (t:af S w k) (o:∀x,x∈S→x∈m::j::g.ownBlock.toList):al k i v:=by
 refine h.away t (fun x b e=> ?_);have c:=o x e;simp only[List.mem_cons,Option.mem_toList,Option.mem_def]at c
 rcases c with rfl|rfl|c
 ·simp only[ap.foot,List.mem_append,List.mem_cons,List.not_mem_nil,or_false,Option.mem_toList,Option.mem_def]at b
  rcases b with(rfl|rfl|rfl|rfl|rfl|rfl|rfl|rfl|rfl|rfl)|b|b|b
  ·exact df a.gone h.vol.ty
  ·exact df a.gone h.jour.ty
  ·exact df a.gone h.space.ty
  ·exact df a.gone h.index.ty
  ·exact df a.gone h.book.ty
  ·exact df a.gone h.bclock.ty
  ·exact df a.gone h.clock.ty
  ·exact d.1 rfl
  ·exact d.2.1 rfl
  ·exact d.2.2 rfl
  ·obtain⟨q,_,f⟩:=h.disk.tyIn _ b
   exact df a.gone f
  ·exact df a.gone (aN h.vers b)
  ·exact df a.gone (aN h.sealed b)
 ·exact h.notype a.fnd.ty (by decide) b
 ·exact h.notype (aN a.cells c) (by decide) b
def jz (cs:List ak) (e:Int):Bool:=cs.any fun c=>decide (c.epoch=e)&&c.gone
structure iQ (D:DataW Unit) (cs:List ak):Prop where
 map:IsMap D
 at':∀e,D.atKey (.int .i64 e) (.lit (.bool false))= .lit (.bool (jz cs e))
theorem iQ.nil:iQ (.map []) []:=⟨isMap_empty,fun _=>rfl⟩
theorem iQ.snoc {D:DataW Unit} {cs:List ak} (h:iQ D cs) (c:ak):iQ (D.put (.int .i64 c.epoch) (.lit (.bool (jz cs c.epoch||c.gone)))) (cs++[c]):=
 ⟨h.map.put _ _,fun e=>by
   have b:jz (cs++[c]) e=(jz cs e||(decide (c.epoch=e)&&c.gone)):=by simp[jz]
   rw[b]
   by_cases a:e=c.epoch
   ·subst a
    rw[atKey_put_same h.map (show WideAt.IsKeyLit (.int .i64 c.epoch)from trivial)];simp
   ·rw[atKey_put_other (by intro q;injection q with _ q;exact a q),h.at' e,decide_eq_false (fun q=>a q.symm)]
    simp⟩
def K1 (w:World) (i:ap) (v:ai) (fb m n:Nat) (cv lv:Value) (cs:List ak) (bl:List ByteArray) (D:DataW Unit) (k:Nat) (c:ak) (w':World):Prop:=
 ∃cv' xv D',iQ D' (cs++[c])∧al w' {i with xv:=xv} {v with vers:=eC v.vers ⟨c.lba,c.epoch,(k:Int)⟩}∧bU w' i.vb fb m (n+1) cv' lv (cs++[c]) bl D'∧af (m::fb::i.xb::(cv.ownBlock.toList++i.xv.ownBlock.toList)) w w'∧
  (∀x,cv'.ownBlock=some x→cv.ownBlock=some x∨w.heap.size≤x)∧∀x,xv.ownBlock=some x→i.xv.ownBlock=some x∨w.heap.size≤x
theorem En (i:ap) (v:ai) (A m n:Nat) (O lv:Value) (cs:List ak) (bl:List ByteArray) (D:DataW Unit) (k:Nat) (c:ak) (M:ByteArray) (w:World) (h:al w i v) (hf:bU w i.vb A m n O lv cs bl D) (hm:m≠i.m1∧m≠i.m2∧m≠i.m3) (hD:iQ D cs)
  (P:bl[k]?=some M) (bx:bh c) (ht:ah M (cellL c)) (hs:c.slot=(k:Int)) (he:c.epoch=v.epoch) (ef:c.lba<v.last.geo.lbas) (hn:n≤65536) (ea:cs.length≤4096) (es:v.vers.length≤4095)
  (ad:∀(i j:Nat) (a b:ag),v.vers[i]?=some a→v.vers[j]?=some b→i≤j→cL b ⟨c.lba,c.epoch,(k:Int)⟩<0→cL a ⟨c.lba,c.epoch,(k:Int)⟩<0) (c0:∀(t:Nat) (x:ag),v.vers[t]?=some x→cL x ⟨c.lba,c.epoch,(k:Int)⟩≠0):
  Calls prog 203 #[.pointer (some ⟨A,0,none⟩), .int .i64 (k:Int)] w fun e w'=>e= .returned (.int .i64 0)∧K1 w i v A m n O lv cs bl D k c w':=by
 obtain⟨ep,sl,lb,L,X⟩:=c;simp only at hs he ef ad c0;subst hs;have f5:k<bl.length:=(List.getElem?_eq_some_iff.1 P).1;obtain⟨lg,eN,z,eg,_,_,hG⟩:=ba hf.rows (by omega);have gM:=hid eg;have ck:w.cell? ⟨lg,k,none⟩=some (.string M):=hG.cell (i:=k) (by rw[List.getElem?_append_left (by simpa using f5),List.getElem?_map,P];rfl);have gt:(k:Int)<(bl.length:Int):=by omega
 have f3:w.cell? ⟨A,3,none⟩=some (.slice (some ⟨lg,0,none⟩) bl.length eN):=by rw[←eg];exact hf.fnd.cell (i:=3) rfl
 have b1:=mr hf.gone bx.e0 bx.e1 (hD.at' ep);have co:=hid hf;have fv:=hid h;have HM:=hid hm;have c9:=hid hD;have B:=hid bx;have HT:=hid ht;have e5:=hid (show v.epoch=ep from he.symm);have gL:=hid ef;have HN:=hid hn;have bt:=hid ea;have fz:=hid es;have ds:=hid (And.intro ad c0);have e7:=hid (fun(r:World) (hx:al r i v)=>show Calls prog 49 #[.pointer (some ⟨i.vb,0,none⟩)] r fun e w'=>e= .returned (.agg #[.int .i64 v.last.geo.blocks, .int .i64 v.last.geo.lbas, .int .i64 v.last.geo.first])∧Below r.heap.size r w' from iL i v r hx);clear h hf hm hD bx ht he hn ea es ad c0 hG b1;have g2:∀(a b c:Int) (w:World),Sem.run prog (Instr.field 23 (.agg #[.int .i64 a, .int .i64 b, .int .i64 c]) 1) w= .ok (.int .i64 b) w:=fun _ _ _ _=>by kernel_rfl
 go_enter func203,ntmps203;go_wp2_with fail
 refine(ll ⟨ep,(k:Int),lb,L,X⟩ M _ HT.out B.out).mono ?_
 rintro e w1 ⟨rfl,d8⟩;have cm:=hid d8;clear ck f3 d8
 go_upto_region 2 with(first
  |((with_reducible refine ab 134 _ zeroCell (some 5) ?hgd ?ho ?hd ?_);(case hgd|ho|hd=>rfl);(intro b5 w2 l2 B2 e2 z2))
  |((with_reducible refine aa 134 (.tmp 5) (.tmp 16) b5 cC (ak.cells ⟨ep,(k:Int),lb,L,X⟩) 134 B2 rfl aX (bZ _) ?hgd ?ho ?hx ?hy ?_);(case hgd|ho|hx|hy=>rfl);(intro w3 B3 o3))
  |fail)
 have d9:Below w1.heap.size w1 w3:=o3.below (e2.mono l2) l2;have an:=hid (cm.trans (d9.mono cm.size));have Q:=hid B3;have ca:=hid (co.below an.out);have cg:=hid (fv.below an.out);have dg:=hid (show w.heap.size≤b5 from Nat.le_trans cm.size l2);clear B2 B3 o3 e2 l2 z2 d9;refine hb (fun r=>r.cell? ⟨b5,0,none⟩=some (.int .i64 ep)∧r.cell? ⟨b5,1,none⟩=some (.int .i64 (k:Int))∧r.cell? ⟨b5,2,none⟩=some (.int .i64 lb)∧r.cell? ⟨A,0,none⟩=some (.pointer (some ⟨i.vb,0,none⟩))∧r.cell? ⟨i.vb,5,none⟩=some (.pointer (some ⟨i.bb,0,none⟩))) (⟨Q.drew.cell (i:=0) rfl,Q.drew.cell (i:=1) rfl,Q.drew.cell (i:=2) rfl,ca.fnd.drew.cell (i:=0) rfl,cg.vol.drew.cell (i:=5) rfl⟩) fun d=> ?_
 obtain⟨wd,N⟩:∃r,r=w3.drew:=⟨_,rfl⟩;have W:Below w3.heap.size w3 wd:=by rw[N];exact(Below.refl _ _).drew
 have g:=hid (Q.below W Q.lt);have cb:=hid (ca.below W);have aq:=hid (cg.below W);have b8:=hid (an.trans (W.mono an.size));rw[←N];rw[←N]at d;clear N W;refine hp 0 ?_;refine hp 1 ?_;refine hp 2 ?_;refine hp 3 ?_;refine hp 4 ?_;refine hp 5 ?_;refine hp 6 ?_;refine hp 7 ?_;refine hp 8 ?_;refine hc 9 fun K p=> ?_
 go_simp
 refine(aR i.bb i.c2 v.first v.epoch i.m1 i.m2 i.m3 _ aq.book).mono ?_
 rintro e w' ⟨rfl,rfl⟩;rw[e5.out]
 (try go_wp2_with fail)
 refine p.out _ _ (⟨g.cell (i:=0) rfl,g.cell (i:=1) rfl,g.cell (i:=2) rfl,cb.fnd.cell (i:=0) rfl,aq.vol.cell (i:=5) rfl⟩) fun _=> ?_
 clear p K d;rename_i d
 (try go_frame)
 refine hp 10 ?_;refine hp 11 ?_;refine hp 12 ?_;refine hp 13 ?_;refine hp 14 ?_;refine hp 15 ?_;refine hp 16 ?_;refine hp 17 ?_;refine hp 18 ?_;refine hp 19 ?_;refine hp 20 ?_;refine hp 21 ?_;refine hp 22 ?_;refine hp 23 ?_;refine hc 24 fun K p=> ?_
 go_simp
 refine(e7.out _ aq.out).mono ?_
 rintro e we ⟨rfl,bd⟩;have I:=hid (g.below bd g.lt);have o:=hid (cb.below bd);have cl:=hid (aq.below bd);have b9:=hid (b8.trans (bd.mono b8.size));clear bd
 (try go_wp2_with fail)
 refine p.out _ _ (⟨I.cell (i:=0) rfl,I.cell (i:=1) rfl,I.cell (i:=2) rfl,o.fnd.cell (i:=0) rfl,cl.vol.cell (i:=5) rfl⟩) fun _=> ?_
 clear p K d;rename_i d
 (try go_frame)
 refine hp 25 ?_;refine hp 26 ?_;refine hp 27 ?_;refine hd ?_;clear d;go_upto_region 4 with fail;have bv:=hid (show O.ownBlock≠some b5∧b5≠A from⟨fun e=>by have:=(aN co.cells e).lt;have:=dg.out;omega,fun e=>by have:=co.fnd.lt;have:=dg.out;omega⟩);have cc:=hid o.fnd;have dt:=hid o.cells;go_cut []from 46 to 55 (fun r=>∃w5,w5=r∧ua we r A 1 [.pointer (some ⟨i.vb,0,none⟩),O, .map (some m),lv] 205 134 5 O (cs.length+1) (eR (cs++[⟨ep,(k:Int),lb,L,X⟩]))∧ac r b5 (ak.cells ⟨ep,(k:Int),lb,L,X⟩) 134)
 case first=>
  refine hb (fun r=>r.rangeAt b5 0 (ak.cells ⟨ep,(k:Int),lb,L,X⟩)) (I.drew.range) fun d=> ?_
  obtain⟨wd,N⟩:∃wd,wd=we.drew:=⟨_,rfl⟩;have a9:Below we.heap.size we wd:=by rw[N];exact(Below.refl _ _).drew
  have dT:=hid (af.refl (A::(O).ownBlock.toList) we);have g:=hid (I.below a9 I.lt);have T:=hid (cc.below a9 cc.lt);have ce:=hid (own_below a9 dt.out);have cf:=hid (dT.trans (af.of_below a9 (Nat.le_refl _)));rw[←N];rw[←N]at d;clear N a9;obtain⟨i0,hi,et,ex,ey⟩:=info_parts sL;refine hp 0 ?_;refine hp 1 ?_;refine hp 2 ?_;refine hp 3 ?_;refine hl 5 134 b5 0 ((ak.cells ⟨ep,(k:Int),lb,L,X⟩)) (fun w h=>h) underlying134 aX ?_;refine hc2 4 6 (fun K p=> ?_) (fun K p=> ?_)
  ·have c4:wd.cell? ⟨A,1,none⟩=some (O):=T.cell (i:=1) rfl
   go_simp;clear c4
   (try go_wp2_with fail)
   refine p.out _ _ (g.range) fun _=> ?_
   clear p K d;rename_i d
   (try go_frame)
   refine hc 6 fun K p=> ?_
   refine dm 203 134 1 _ (ak.cells ⟨ep,(k:Int),lb,L,X⟩) (.agg cC.toArray) 5 48 underlying203 sL (by omega) (by omega) rfl (by kernel_rfl) ?_;intro g8 w8 l8 B8 e8 z8;have E:Below wd.heap.size wd w8:=e8.mono l8;have cu:=hid B8;have H:=hid (g.below E g.lt);have J:=hid (T.below E T.lt);have U:=hid (own_below E ce.out);have V:=hid (cf.trans (af.of_below E (Nat.le_refl _)));clear B8 e8 z8 E l8
   (try go_wp2_with fail)
   refine p.out _ _ (H.range) fun _=> ?_
   clear p K d;rename_i d
   (try go_frame)
   refine hc 7 fun K p=> ?_
   refine cM _ _ 203 rfl i0 (.agg cC.toArray) 48 underlying203 hi et ex ey rfl (by decide) rfl U.out ⟨g8,0,none⟩ 1 1 (ak.cells ⟨ep,(k:Int),lb,L,X⟩) rfl rfl (bI cu.out) (bZ _) (by have:=bt.out;show cs.length+1≤maxLen;unfold maxLen;omega) (by have:=bt.out;show(cs.length+1)*48≤140737488355328;omega) (Nat.zero_le _) ?_;intro v' w9 G u y;have f:w8.grownBy w9 (O).ownBlock:=u;have F:dW w8 (O).ownBlock v'.ownBlock:=y;clear u y;obtain⟨p9,q9,c1⟩:=az G;subst c1;have R:=hid (H.grown f (fun e=>bv.out.1 e.symm));have s:=hid (J.grown f (fun e=>absurd (show 134=205 from(aN U.out e.symm).eq J.ty) (by decide)));have a4:=hid G;have cw:=hid (F.back V.size);have a5:=hid (V.trans (af.of_grown f (fun k P=>by simp[P])));clear G f F
   (try go_wp2_with fail)
   refine p.out _ _ (R.range) fun _=> ?_
   clear p K d;rename_i d
   (try go_frame)
   refine hp 8 ?_;refine hp 9 ?_;have c4:=s.cell (i:=1) rfl;have f4:=s.free 1;refine hc 10 fun K p=> ?_
   go_simp;have S:=hid (R.set_other (a:=⟨A,1,none⟩) (fun e=>bv.out.2 e) (.slice p9 (cs.length+1) q9));have a3:=hid (s.set 1 (.slice p9 (cs.length+1) q9));have a6:=hid (a5.setCell (b:=A) (.inl (by simp)) 1 (.slice p9 (cs.length+1) q9));have cx:=hid (ay a4.out ((af.refl [A] w9).setCell (b:=A) (.inl (by simp)) 1 (.slice p9 (cs.length+1) q9)) (fun k P=>(aN a4.out P).notin (bQ.one s.ty) (by decide)));clear c4 f4
   (try go_wp2_with fail)
   refine p.out _ _ (S.range) fun _=> ?_
   clear p K d;rename_i d
   (try go_frame)
   refine hd ?_;clear d
   (try go_wp2_with fail)
   go_meet;exact⟨_,rfl,⟨_,by rw[rQ];exact cx.out,a3.out,a6.out,cw.out⟩,S.out⟩
  ·refine dm 203 134 1 _ (ak.cells ⟨ep,(k:Int),lb,L,X⟩) (.agg cC.toArray) 5 48 underlying203 sL (by omega) (by omega) rfl (by kernel_rfl) ?_
   intro g8 w8 l8 B8 e8 z8;have E:Below wd.heap.size wd w8:=e8.mono l8;have cu:=hid B8;have H:=hid (g.below E g.lt);have J:=hid (T.below E T.lt);have U:=hid (own_below E ce.out);have V:=hid (cf.trans (af.of_below E (Nat.le_refl _)));clear B8 e8 z8 E l8
   (try go_wp2_with fail)
   refine p.out _ _ (H.range) fun _=> ?_
   clear p K d;rename_i d
   (try go_frame)
   refine hc 4 fun K p=> ?_
   have c4:w8.cell? ⟨A,1,none⟩=some (O):=J.cell (i:=1) rfl;go_simp;clear c4
   (try go_wp2_with fail)
   refine p.out _ _ (H.range) fun _=> ?_
   clear p K d;rename_i d
   (try go_frame)
   refine hc 7 fun K p=> ?_
   refine cM _ _ 203 rfl i0 (.agg cC.toArray) 48 underlying203 hi et ex ey rfl (by decide) rfl U.out ⟨g8,0,none⟩ 1 1 (ak.cells ⟨ep,(k:Int),lb,L,X⟩) rfl rfl (bI cu.out) (bZ _) (by have:=bt.out;show cs.length+1≤maxLen;unfold maxLen;omega) (by have:=bt.out;show(cs.length+1)*48≤140737488355328;omega) (Nat.zero_le _) ?_;intro v' w9 G u y;have f:w8.grownBy w9 (O).ownBlock:=u;have F:dW w8 (O).ownBlock v'.ownBlock:=y;clear u y;obtain⟨p9,q9,c1⟩:=az G;subst c1;have R:=hid (H.grown f (fun e=>bv.out.1 e.symm));have s:=hid (J.grown f (fun e=>absurd (show 134=205 from(aN U.out e.symm).eq J.ty) (by decide)));have a4:=hid G;have cw:=hid (F.back V.size);have a5:=hid (V.trans (af.of_grown f (fun k P=>by simp[P])));clear G f F
   (try go_wp2_with fail)
   refine p.out _ _ (R.range) fun _=> ?_
   clear p K d;rename_i d
   (try go_frame)
   refine hp 8 ?_;refine hp 9 ?_;have c4:=s.cell (i:=1) rfl;have f4:=s.free 1;refine hc 10 fun K p=> ?_
   go_simp;have S:=hid (R.set_other (a:=⟨A,1,none⟩) (fun e=>bv.out.2 e) (.slice p9 (cs.length+1) q9));have a3:=hid (s.set 1 (.slice p9 (cs.length+1) q9));have a6:=hid (a5.setCell (b:=A) (.inl (by simp)) 1 (.slice p9 (cs.length+1) q9));have cx:=hid (ay a4.out ((af.refl [A] w9).setCell (b:=A) (.inl (by simp)) 1 (.slice p9 (cs.length+1) q9)) (fun k P=>(aN a4.out P).notin (bQ.one s.ty) (by decide)));clear c4 f4
   (try go_wp2_with fail)
   refine p.out _ _ (S.range) fun _=> ?_
   clear p K d;rename_i d
   (try go_frame)
   refine hd ?_;clear d
   (try go_wp2_with fail)
   go_meet;exact⟨_,rfl,⟨_,by rw[rQ];exact cx.out,a3.out,a6.out,cw.out⟩,S.out⟩
 case rest=>
 obtain⟨w5,rfl,⟨a7,em,ec,bk,el⟩,d4⟩:=hcut;have bo:=hid d4;have cW:∀x,x∈A::O.ownBlock.toList→x∈m::A::O.ownBlock.toList:=fun x hx=>List.mem_cons_of_mem _ hx
 have fw:=hid (cl.finds o.out HM.out bk cW);have a8:bQ we (A::O.ownBlock.toList) [205,134]:=bQ.cons o.fnd.ty (bQ.own o.cells);have C:=hid (show bU w5 i.vb A m n a7 lv (cs++[⟨ep,(k:Int),lb,L,X⟩]) bl D from⟨ec.ext rfl,by rw[List.length_append];exact em,ay o.rows bk (fun q hq=>(aN o.rows hq).notin a8 (by decide)),km o.gone bk (kT o.gone a8)⟩);have fo:=hid (show af (m::A::O.ownBlock.toList) w w5 from(af.of_below b9.out (Nat.le_refl _)).trans (bk.mono cW));have fd:=hid (fun(x:Nat) (hx:a7.ownBlock=some x)=>show O.ownBlock=some x∨w.heap.size≤x from el.elim (fun h=> .inl (by rw[←h];exact hx)) (fun h=> .inr (Nat.le_trans b9.size (h x hx))));clear em ec bk el d4 cW a8;obtain⟨gv,ee⟩:∃gv,jz cs ep=gv:=⟨_,rfl⟩;have b1:=mr (World.ownsMap.drew C.gone) B.e0 B.e1 (c9.at' ep);rw[ee]at b1;have e9:=hid ee;have d2:=C.fnd.drew.cell (i:=2) rfl;have b0:=bo.drew.cell (i:=0) rfl;have b3:=bo.drew.cell (i:=3) rfl;have cy:=hid (World.ownsMap.drew C.gone);have cr:=(keyOf_int_mk underlying3 (WalkArith.wf_i64 (by have:=B.e0;have:=B.e1;simp only at*;omega)):keyOf prog 3 (.int .i64 ep)=some (.int .i64 ep))
 have a2:=hid (fun(w6:World) (ht:af [m] w5 w6) (ho:w6.ownsMap prog 3 (plainElem prog 4) m (n+1) (D.put (.int .i64 ep) (.lit (.bool (gv||L)))))=>show bU w6 i.vb A m (n+1) a7 lv (cs++[⟨ep,(k:Int),lb,L,X⟩]) bl (D.put (.int .i64 ep) (.lit (.bool (gv||L))))∧al w6 i v∧ac w6 b5 (ak.cells ⟨ep,(k:Int),lb,L,X⟩) 134∧af [m] w5 w6 from
  have b2:∀(x:Nat) (t:TypeId),Ty w5 x t→x∉[m]:=fun x t hx hm=>by simp at hm;subst hm;exact df C.gone hx
  ⟨⟨ht.blk C.fnd (b2 _ _ C.fnd.ty),ay C.cells ht (fun q hq=>b2 _ _ (aN C.cells hq)),ay C.rows ht (fun q hq=>b2 _ _ (aN C.rows hq)),ho⟩,fw.finds C.out HM.out ht (by intro x hx;simp at hx;simp[hx]),ht.blk bo.out (b2 _ _ bo.ty),ht⟩)
 go_upto_region 5 with fail;go_cut []from 56 to 72 (fun r=>∃w6,w6=r∧bU r i.vb A m (n+1) a7 lv (cs++[⟨ep,(k:Int),lb,L,X⟩]) bl (D.put (.int .i64 ep) (.lit (.bool (gv||L))))∧al r i v∧ac r b5 (ak.cells ⟨ep,(k:Int),lb,L,X⟩) 134∧af [m] w5 r)
 case first=>
  refine aK 17 (by kernel_rfl) (by kernel_rfl) ?_;simp only[List.take_succ_cons,List.take_zero,List.drop_succ_cons,List.drop_zero]
  cases gv with
  |true=>
   iterate 17 still_step
   refine wpStill_nil ?_
   go_wp2_with (first
    |(at_mapUpdate;refine wpList_mapUpdate_own _ rfl _ _ _ 191 rfl 3 4 jI underlying191 _ m n D rfl cy.out (by have:=HN.out;unfold maxLen;omega) _ _ _ rfl rfl cr _ [] (plainElem_bool underlying4 true) ?_;intro w6 bn Z)
    |fail)
   go_meet;have ht:af [m] w5 w6:=(af.refl [m] w5).drew.trans (af.of_grown Z (fun k P=>by injection P with P;subst P;simp));exact⟨_,rfl,a2.out _ ht bn⟩
  |false=>
   iterate 17 still_step
   refine wpStill_nil ?_
   go_wp2_with (first
    |(at_mapUpdate;refine wpList_mapUpdate_own _ rfl _ _ _ 191 rfl 3 4 jI underlying191 _ m n D rfl cy.out (by have:=HN.out;unfold maxLen;omega) _ _ _ rfl rfl cr _ [] (plainElem_bool underlying4 L) ?_;intro w6 bn Z)
    |fail)
   go_meet;have ht:af [m] w5 w6:=(af.refl [m] w5).drew.trans (af.of_grown Z (fun k P=>by injection P with P;subst P;simp));exact⟨_,rfl,a2.out _ ht bn⟩
 case rest=>
 obtain⟨w6,rfl,d6,d7,d5,er⟩:=hcut;have db:=hid d6;have d0:=hid d7;have bs:=hid d5;have fr:=hid (fo.trans (er.mono (by intro x hx;simp at hx;simp[hx])));clear d6 d7 d5 er b1 d2 b0 b3 cy cr a2;go_upto_region 6 with fail;refine hb (fun r=>r.cell? ⟨A,0,none⟩=some (.pointer (some ⟨i.vb,0,none⟩))∧r.cell? ⟨i.vb,3,none⟩=some (.pointer (some ⟨i.xb,0,none⟩))∧r.cell? ⟨b5,0,none⟩=some (.int .i64 ep)∧r.cell? ⟨b5,2,none⟩=some (.int .i64 lb)) (⟨db.fnd.drew.cell (i:=0) rfl,d0.vol.drew.cell (i:=3) rfl,bs.drew.cell (i:=0) rfl,bs.drew.cell (i:=2) rfl⟩) fun d=> ?_
 obtain⟨wg,b4⟩:∃r,r=w6.drew:=⟨_,rfl⟩;have be:Below w6.heap.size w6 wg:=by rw[b4];exact(Below.refl _ _).drew
 have c8:=hid (bs.below be bs.lt);have e6:=hid (db.below be);have Y:=hid (d0.below be);have dv:=hid (fr.trans (af.of_below be (Nat.le_refl _)));rw[←b4];rw[←b4]at d;clear b4 be;refine hp 0 ?_;refine hp 1 ?_;refine hp 2 ?_;refine hp 3 ?_;refine hp 4 ?_;refine hp 5 ?_;refine hp 6 ?_;refine hp 7 ?_;refine hp 8 ?_;refine hp 9 ?_;refine hp 10 ?_;refine hp 11 ?_;refine hu 12 130 (ag.cells ⟨lb,ep,(k:Int)⟩) (parts:=#[(0, .tmp 81),(1, .tmp 83),(2, .tmp 84)]) (by refine Eq.trans ?_ (oI lb ep (k:Int));kernel_rfl) ?_;refine hc 13 fun K p=> ?_
 go_simp
 refine(rK i.xb v.vers.length i.xv v.vers ⟨lb,ep,(k:Int)⟩ _ Y.index Y.vers rfl fz.out ⟨B.l0,B.l1,B.e0,B.e1,B.s0,B.s1⟩ ds.out.1 ds.out.2).mono ?_
 rintro e w7 ⟨⟨rfl,xv,hX,hR,hN⟩,bm⟩;have d1:=hid (Y.idx (xv:=xv) (l:=eC v.vers ⟨lb,ep,(k:Int)⟩) bm hX (by rw[kO];exact hR) hN);have dc:=hid (e6.types bm (bQ.cons Y.index.ty (bQ.own Y.vers)) (by decide));have c7:=hid (bm.blk c8.out (c8.ty.notin (bQ.cons Y.index.ty (bQ.own Y.vers)) (by decide)));have fs:=hid (show af (m::A::i.xb::(O.ownBlock.toList++i.xv.ownBlock.toList)) w w7 from(dv.mono (by intro x hx;simp only[List.mem_cons,List.mem_append]at hx ⊢;rcases hx with h|h|h;exact .inl h;exact .inr (.inl h);exact .inr (.inr (.inr (.inl h))))).trans (bm.mono (by intro x hx;simp only[List.mem_cons,List.mem_append]at hx ⊢;rcases hx with h|h;exact .inr (.inr (.inl h));exact .inr (.inr (.inr (.inr h))))));have fn:=hid (fun(x:Nat) (hx:xv.ownBlock=some x)=>show i.xv.ownBlock=some x∨w.heap.size≤x from(hN x hx).imp id (fun h=>Nat.le_trans dv.size h));clear hX hR hN bm
 (try go_wp2_with fail)
 refine p.out _ _ (⟨dc.fnd.cell (i:=0) rfl,d1.at'.vol.cell (i:=3) rfl,c7.cell (i:=0) rfl,c7.cell (i:=2) rfl⟩) fun _=> ?_
 clear p K d;rename_i d
 (try go_frame)
 refine hp 14 ?_;refine hd ?_;clear d;go_wp2_with fail;go_ret;refine⟨rfl,a7,xv,_, ?_,d1.at',dc.out,fs.out,fd.out,fn.out⟩
 have:=c9.snoc ⟨ep,(k:Int),lb,L,X⟩
 simp only[e9.out]at this;exact this
structure vB (cs:List ak):Prop where
 one:∀(j k:Nat) (a b:ak),cs[j]?=some a→cs[k]?=some b→j<k→a.lba≠b.lba
 l0:∀c∈cs,0≤c.lba∧c.lba<4096
theorem sM {ep:Int} {cs:List ak} (h:vB cs):∀k,k≤cs.length→∀(j:Nat) (c:ak),j<k→cs[j]?=some c→cp ep (cs.take k) c.lba=some (eV ep c.slot c.cipher.data.toList)
 |0,_,j,c,hj,_=>by omega
 |k+1,hk,j,c,hj,hc=>by
  have b:cs[k]?=some cs[k]:=List.getElem?_eq_getElem (by omega);rw[fO b]
  show(if c.lba=cs[k].lba then _ else _)= _
  by_cases a:j=k
  ·subst a
   rw[b]at hc
   injection hc with hc
   rw[←hc,if_pos rfl]
  ·rw[if_neg (h.one j k c _ hc b (by omega))]
   exact sM h k (by omega) j c (by omega) hc
theorem lR (f:Int→Option (List UInt8)):∀n,(bu f n).length=iE (fun i=>(f (i:Int)).isSome) n
 |0=>rfl
 |n+1=>by
  unfold iE;rw[←lR f n]
  cases h:f (n:Int)with
  |none=>rw[nD h];simp
  |some x=>rw[mz h];simp
theorem pA {ep:Int} {cs:List ak} (h:vB cs):∀k,k≤cs.length→(bu (cp ep (cs.take k)) 4096).length=k
 |0,_=>by
  rw[lR]
  have:∀n,iE (fun i=>(cp ep (cs.take 0) (i:Int)).isSome) n=0:=fun n=>by
   induction n with
   |zero=>rfl
   |succ n ih=>unfold iE;rw[ih];simp[cp]
  exact this _
 |k+1,hk=>by
  have d:cs[k]?=some cs[k]:=List.getElem?_eq_getElem (by omega);obtain⟨f,g⟩:=h.l0 _ (List.getElem_mem (by omega:k<cs.length));have ih:=pA (ep:=ep) h k (by omega);rw[lR]at ih ⊢;refine Eq.trans (oQ (P:=fun i=>(cp ep (cs.take k) (i:Int)).isSome) (a:=cs[k].lba.toNat) ?_ ?_ 4096 (fun i _ hne=> ?_) (by omega)) (by rw[ih])
  ·show(cp ep (cs.take k) ((cs[k].lba.toNat:Nat):Int)).isSome=false
   rw[show((cs[k].lba.toNat:Nat):Int)=cs[k].lba by omega,lN ep cs _ k (by omega) (fun j c e b=>h.one j k c _ e d b)]
   rfl
  ·show(cp ep (cs.take (k+1)) ((cs[k].lba.toNat:Nat):Int)).isSome=true
   rw[show((cs[k].lba.toNat:Nat):Int)=cs[k].lba by omega,sM h (k+1) hk k _ (by omega) d]
   rfl
  ·show(cp ep (cs.take k) (i:Int)).isSome=(cp ep (cs.take (k+1)) (i:Int)).isSome
   rw[fO d]
   show _=(if(i:Int)=cs[k].lba then _ else _:Option (List UInt8)).isSome
   rw[if_neg (by omega)]
theorem rR {b:List ag} (o:∀(i j:Nat) (a d:ag),b[i]?=some a→b[j]?=some d→i<j→gR a d) (ep:Int):∀k,k≤b.length→∀(t:Nat) (x:ag),t<k→b[t]?=some x→x.epoch=ep→(∀(s:Nat) (y:ag),t<s→s<k→b[s]?=some y→¬(y.lba=x.lba∧y.epoch=ep))→x∈bH (b.take k) ep
 |0,_,t,x,ht,_,_,_=>by omega
 |k+1,hk,t,x,ht,hx,he,hl=>by
  have g:b[k]?=some b[k]:=List.getElem?_eq_getElem (by omega);rw[nF g]
  by_cases l:t=k
  ·subst l
   rw[g]at hx
   injection hx with hx
   subst hx;unfold du;rw[if_pos he]
   split
   ·split<;>simp
   ·simp
  ·have ih:=rR o ep k (by omega) t x (by omega) hx he (fun s y c p n=>hl s y c (by omega) n)
   have f:=hl k _ (by omega) (by omega) g;unfold du
   split
   ·rename_i e
    split
    ·rename_i y hy
     split
     ·rename_i m
      have h:=oS _ y hy;rw[←h]at ih
      rcases List.mem_append.1 ih with c|c
      ·exact List.mem_append_left _ c
      ·simp at c
       subst c;exact absurd ⟨m.symm,e⟩ f
     ·exact List.mem_append_left _ ih
    ·rename_i hn
     have:bH (b.take k) ep=[]:=List.getLast?_eq_none_iff.1 hn
     rw[this]at ih
     cases ih
   ·exact ih
def LE.cellE:LE→Option ak
 | .cell _ c=>some c
 | .held _=>none
def cB (log:List LE):List ak:=log.filterMap LE.cellE
def cI (cs:List ak) (ep:Int):List ak:=cs.filter fun c=>decide (c.epoch=ep)
def kB (ep:Int) (f:Int→Option (List UInt8)) (c:ak):Int→Option (List UInt8):=fun j=>if j=c.lba then some (eV ep c.slot c.cipher.data.toList)else f j
theorem Eo (ep:Int) (cs:List ak):cp ep cs=cs.foldl (kB ep) (fun _=>none):=rfl
def kC (ep:Int) (f:Int→Option (List UInt8)) (e:LE):Int→Option (List UInt8):=
 match e with
 | .cell _ c=>if c.epoch=ep then kB ep f c else f
 | .held _=>f
theorem GG (ep:Int) (log:List LE):cp ep (cI (cB log) ep)=log.foldl (kC ep) (fun _=>none):=by
 rw[Eo];unfold cI cB
 generalize(fun _:Int=>(none:Option (List UInt8)))=f0
 induction log generalizing f0 with
 |nil=>rfl
 |cons e r ih=>
  cases e with
  |held s=>exact ih f0
  |cell x c=>
   show List.foldl (kB ep) f0 (List.filter _ (c::List.filterMap LE.cellE r))=List.foldl (kC ep) (if c.epoch=ep then kB ep f0 c else f0) r
   rw[List.filter_cons]
   by_cases hc:c.epoch=ep
   ·rw[if_pos (by simpa using hc),if_pos hc]
    exact ih _
   ·rw[if_neg (by simpa using hc),if_neg hc]
    exact ih _
structure Es (log:List LE) (ep j:Int) (k:Nat) (q:Option (List UInt8)):Prop where
 no:q=none→∀(i:Nat) x c,i<k→log[i]?=some (LE.cell x c)→¬(c.lba=j∧c.epoch=ep)
 yes:∀y,q=some y→∃(i:Nat) (x:AV) (c:ak),i<k∧log[i]?=some (LE.cell x c)∧c.lba=j∧c.epoch=ep∧y=eV ep c.slot c.cipher.data.toList∧∀(n:Nat) z d,i<n→n<k→log[n]?=some (LE.cell z d)→¬(d.lba=j∧d.epoch=ep)
theorem xc (log:List LE) (ep j:Int):∀k,k≤log.length→Es log ep j k ((log.take k).foldl (kC ep) (fun _=>none) j)
 |0,_=>⟨fun _ i x c C=>(by omega),fun y h=>(by cases h)⟩
 |k+1,h=>by
  have ih:=xc log ep j k (by omega);have e:log[k]?=some log[k]:=List.getElem?_eq_getElem (by omega);rw[List.take_succ_eq_append_getElem (by omega),List.foldl_append]
  generalize(log.take k).foldl (kC ep) (fun _=>none)=f at ih
  show Es log ep j (k+1) (kC ep f log[k] j)
  have b:(∀x c,log[k]?=some (LE.cell x c)→¬(c.lba=j∧c.epoch=ep))→Es log ep j (k+1) (f j):=fun g=>
   ⟨fun l i x c C m=>(by
    by_cases q:i=k
    ·subst q;exact g x c m
    ·exact ih.no l i x c (by omega) m),fun y l=>by
    obtain⟨i,x,c,D,u,v,w,A,B⟩:=ih.yes y l
    exact⟨i,x,c,by omega,u,v,w,A,fun n z d hn r a=>by
     by_cases t:n=k
     ·subst t;exact g z d a
     ·exact B n z d hn (by omega) a⟩⟩
  cases he:log[k]with
  |held s=>
   rw[he]at e;exact b fun x c m=>by rw[e]at m;cases m
  |cell x c=>
   rw[he]at e
   show Es log ep j (k+1) ((if c.epoch=ep then kB ep f c else f) j)
   by_cases hc:c.epoch=ep
   ·rw[if_pos hc]
    by_cases o:j=c.lba
    ·rw[show kB ep f c j=some (eV ep c.slot c.cipher.data.toList)from if_pos o]
     exact⟨fun l=>(by cases l),fun y hy=>by
      injection hy with hy
      exact⟨k,x,c,by omega,e,o.symm,hc,hy.symm,fun n z d hn r _=>by omega⟩⟩
    ·rw[show kB ep f c j=f j from if_neg o]
     exact b fun z d a p=>by rw[e]at a;injection a with a;injection a with _ a;subst a;exact o p.1.symm
   ·rw[if_neg hc]
    exact b fun z d a p=>by rw[e]at a;injection a with a;injection a with _ a;subst a;exact hc p.2
theorem bY.cellsOk {log:List LE} {key:ByteArray} {b:av} {e:List ag} (h:bY log key b e) (hl:∀(k:Nat) x c,log[k]?=some (LE.cell x c)→0≤c.lba∧c.lba<4096) (ep:Int):vB (cellsOf log e ep) where
 one:=fun j k a b i hb l=>by
  have f:=lQ h.sort ep e.length (Nat.le_refl _);rw[List.take_of_length_le (Nat.le_refl _)]at f;unfold cellsOf at i hb;rw[List.getElem?_map,Option.map_eq_some_iff]at i hb;obtain⟨x,g,rfl⟩:=i;obtain⟨z,r,rfl⟩:=hb;obtain⟨B,D,u,o,s,_,_⟩:=ka h (List.mem_iff_getElem?.2 ⟨j,g⟩);obtain⟨C,E,v,p,t,_,_⟩:=ka h (List.mem_iff_getElem?.2 ⟨k,r⟩);obtain⟨w,m⟩:=List.getElem?_eq_some_iff.1 g;obtain⟨A,n⟩:=List.getElem?_eq_some_iff.1 r;have hp:=List.pairwise_iff_getElem.1 f.1 j k w A l;rw[m,n,o,p]at hp;rw[o,p,iN s,iN t,(h.fit B D u s).lba,(h.fit C E v t).lba];simp only at hp;omega
 l0:=fun c hc=>by
  unfold cellsOf at hc;obtain⟨x,g,rfl⟩:=List.mem_map.1 hc;obtain⟨k,y,d,rfl,q,_,_⟩:=ka h g;rw[iN q];exact hl k y d q
theorem xd {log:List LE} {key:ByteArray} {b:av} {a:List ag} (h:bY log key b a) (hl:∀(k:Nat) x c,log[k]?=some (LE.cell x c)→0≤c.lba∧c.lba<4096) (ep:Int):cp ep (cI (cB log) ep)=cp ep (cellsOf log a ep):=by
 rw[GG]
 funext j
 have m:=xc log ep j log.length (Nat.le_refl _);rw[List.take_of_length_le (Nat.le_refl _)]at m;have w:=h.cellsOk hl ep
 have B:∀c∈cellsOf log a ep,∃(k:Nat) (y:AV),log[k]?=some (LE.cell y c)∧c.epoch=ep:=fun c hc=>by
  unfold cellsOf at hc;obtain⟨x,P,rfl⟩:=List.mem_map.1 hc;obtain⟨k,y,d,rfl,e,_,r⟩:=ka h P;rw[iN e];exact⟨k,y,e,r⟩
 generalize log.foldl (kC ep) (fun _=>none) j=q at m
 cases q with
 |none=>
  have g:=lN ep (cellsOf log a ep) j (cellsOf log a ep).length (Nat.le_refl _) (fun i c n _ hlb=>by
   obtain⟨k,y,e,p⟩:=B c (List.mem_iff_getElem?.2 ⟨i,n⟩);exact m.no rfl k y c (List.getElem?_eq_some_iff.1 e).1 e ⟨hlb,p⟩)
  rw[List.take_of_length_le (Nat.le_refl _)]at g;exact g.symm
 |some y=>
  obtain⟨k,x,c,N,C,e,p,rfl,f⟩:=m.yes y rfl;have A:=h.fit k x c C;obtain⟨t,F⟩:=h.vall k x c C
  have O:(⟨x.lba,x.epoch,(k:Int)⟩:ag)∈bH a ep:=by
   have J:=rR h.sort ep a.length (Nat.le_refl _) t _ (List.getElem?_eq_some_iff.1 F).1 F (by show x.epoch=ep;rw[←A.epoch];exact p) (fun s z r Q I u=>by
    obtain⟨K,o,H,L,G⟩:=h.vin s z I;have v:=h.sort t s _ _ F I r;rw[L]at u v;unfold gR at v;have l:=h.fit K o H G;have M:=A.epoch;have D:o.lba=x.lba:=u.1;have E:o.epoch=ep:=u.2;refine f K o H ?_ (List.getElem?_eq_some_iff.1 G).1 G ⟨by rw[l.lba,D,←A.lba];exact e,by rw[l.epoch];exact E⟩;simp only at v
    omega)
   rw[List.take_of_length_le (Nat.le_refl _)]at J;exact J
  have hc:c∈cellsOf log a ep:=by
   unfold cellsOf;exact List.mem_map.2 ⟨_,O,iN C⟩
  obtain⟨i,n⟩:=List.mem_iff_getElem?.1 hc;have g:=sM (ep:=ep) w _ (Nat.le_refl _) i c (List.getElem?_eq_some_iff.1 n).1 n;rw[List.take_of_length_le (Nat.le_refl _)]at g;rw[←e,g]
theorem xf (ep:Int) (cs:List ak) (n:Nat) (hl:∀c∈cs,0≤c.lba∧c.lba<(n:Int)):∀k,k≤cs.length→Maps.size (dV ep (cs.take k))=iE (fun i=>(cp ep (cs.take k) (i:Int)).isSome) n
 |0,_=>by
  have:∀n,iE (fun i=>(cp ep (cs.take 0) (i:Int)).isSome) n=0:=fun n=>by
   induction n with
   |zero=>rfl
   |succ n ih=>unfold iE;rw[ih];simp[cp]
  rw[this]
  rfl
 |k+1,h=>by
  have hc:cs[k]?=some cs[k]:=List.getElem?_eq_getElem (by omega);obtain⟨f,g⟩:=mB ep cs k (by omega);have ih:=xf ep cs n hl k (by omega);obtain⟨j,l⟩:=hl _ (List.getElem_mem (by omega:k<cs.length))
  have d:(cp ep (cs.take (k+1)) ((cs[k].lba.toNat:Nat):Int)).isSome=true:=by
   rw[fO hc]
   show(if((cs[k].lba.toNat:Nat):Int)=cs[k].lba then _ else _:Option (List UInt8)).isSome=true
   rw[if_pos (by omega)]
   rfl
  have b:∀i:Nat,i≠cs[k].lba.toNat→(cp ep (cs.take k) (i:Int)).isSome=(cp ep (cs.take (k+1)) (i:Int)).isSome:=fun i e=>by
   rw[fO hc]
   show _=(if(i:Int)=cs[k].lba then _ else _:Option (List UInt8)).isSome
   rw[if_neg (by omega)]
  rw[lM hc,Maps.size_put g,f.has,ih]
  cases hq:(cp ep (cs.take k) cs[k].lba).isSome with
  |false=>
   refine(Eq.trans ?_ (oQ (P:=fun i=>(cp ep (cs.take k) (i:Int)).isSome) (a:=cs[k].lba.toNat) ?_ d n (fun i _ hne=>b i hne) (by omega)).symm)
   ·simp
   ·show(cp ep (cs.take k) ((cs[k].lba.toNat:Nat):Int)).isSome=false
    rw[show((cs[k].lba.toNat:Nat):Int)=cs[k].lba by omega];exact hq
  |true=>
   simp only[if_true];refine li n (fun i _=> ?_)
   by_cases e:i=cs[k].lba.toNat
   ·subst e
    rw[d,show((cs[k].lba.toNat:Nat):Int)=cs[k].lba by omega];exact hq
   ·exact b i e
theorem GH {log:List LE} {key:ByteArray} {b:av} {f:List ag} (h:bY log key b f) (hl:∀(k:Nat) x c,log[k]?=some (LE.cell x c)→0≤c.lba∧c.lba<4096) (ep:Int):Maps.size (dV ep (cI (cB log) ep))=(cellsOf log f ep).length:=by
 have g:=xf ep (cI (cB log) ep) 4096 (fun c hc=>by
  unfold cI cB at hc;obtain⟨e,j,a⟩:=List.mem_filterMap.1 (List.mem_filter.1 hc).1
  cases e with
  |held s=>cases a
  |cell x d=>
   injection a with a
   subst a;obtain⟨k,l⟩:=List.mem_iff_getElem?.1 j;exact hl k x d l) _ (Nat.le_refl _)
 have i:=pA (ep:=ep) (h.cellsOk hl ep) _ (Nat.le_refl _);rw[List.take_of_length_le (Nat.le_refl _)]at g i;rw[g,xd h hl,←lR,i]
theorem GI {log:List LE} {key:ByteArray} {b:av} {a:List ag} (h:bY log key b a) (hl:∀(k:Nat) x c,log[k]?=some (LE.cell x c)→0≤c.lba∧c.lba<4096) (ep:Int):lK (bu (cp ep (cI (cB log) ep)) 4096)=re ep (cellsOf log a ep):=by
 rw[xd h hl]
 rfl
end Go.Proofs.YtadooplpfhdhcaaGreat
