/- A block's cell that holds a row, behind an append to it. No program in sight. A record is sealed (chapter 26): whatever record, whatever book; where there is no ring. May bytes be a name (chapter 19), of any length. -/
import Derived.Test.YtadooplpfhdhcaaGreatQ4
import Derived.Test.YtadooplpfhdhcaaGreatQ2
import Derived.Test.YtadooplpfhdhcaaGreatQ7
import Derived.Test.YtadooplpfhdhcaaGreatQ22
import Derived.Test.YtadooplpfhdhcaaGreatQ24
import Derived.Test.YtadooplpfhdhcaaGreatQ23
import Derived.Test.YtadooplpfhdhcaaGreatQ25
import Derived.Test.YtadooplpfhdhcaaGreatQ6
import Derived.Test.YtadooplpfhdhcaaGreatQ18
import Derived.Laws.CopyRow
import Derived.Laws.AppendOwn
import Derived.Laws.NewBlocks
import Derived.Lib.Overlaps
import Derived.Lib.AppendZerosOnto
set_option linter.unusedSimpArgs false
set_option linter.unusedVariables false
set_option maxRecDepth 100000
set_option maxHeartbeats 4000000
namespace Go.Proofs.YtadooplpfhdhcaaGreat
open Go Go.RowKit
open Go.Lib (hid)
open Go.Proofs.Tryz
theorem dW.back {u w:World} {a b:Option Nat} (h:dW u a b) (d:w.heap.size≤u.heap.size):dW w a b:=h.imp id (fun h k c=>Nat.le_trans d (h k c))
theorem dW.or {u:World} {a b:Option Nat} (h:dW u a b):∀k,b=some k→a=some k∨u.heap.size≤k:=fun k c=>h.elim (fun e=> .inl (by rw[←e];exact c)) (fun f=> .inr (f k c))
structure ua (w w':World) (b k:Nat) (cs:List Value) (t e:TypeId) (m:Nat) (lv:Value) (n:Nat) (xs:List Value):Prop where
 ex:∃lv',w'.ownsRow 0 e m lv' n xs∧ac w' b (cs.set k lv') t∧af (b::lv.ownBlock.toList) w w'∧dW w lv.ownBlock lv'.ownBlock
theorem ua.lead {w0 w c:World} {b k:Nat} {cs:List Value} {t e:TypeId} {m:Nat} {a:Value} {n:Nat} {xs:List Value} (h:ua w c b k cs t e m a n xs) (hb:Below w0.heap.size w0 w):ua w0 c b k cs t e m a n xs:=
 ⟨h.ex.imp fun d ⟨h1,h2,h3,h4⟩=>⟨h1,h2,(af.of_below hb (Nat.le_refl _)).trans h3,h4.back hb.size⟩⟩
section
variable {P:Program} {o:Oper} {a:Act} {w:World} {K:Act→World→Prop} {Q:Exit→Act→World→Prop}
end
open Go.Maps Go.WideMaps
theorem al.offBook {w:World} {i:ap} {v:ai} (h:al w i v) {b:Nat} {t:TypeId} (hb:Ty w b t) (e:t∉[193,188]):b∉[i.bb,i.c2,i.m1,i.m2,i.m3]:=by
 intro a;have c:=hb.notin (bQ.cons h.book.ty (bQ.one h.bclock.ty)) e;have d:=ez h.maps (bQ.one hb);simp only[List.mem_cons,List.not_mem_nil,or_false]at a c
 rcases a with a|a|a|a|a
 ·exact c (.inl a)
 ·exact c (.inr a)
 ·exact d i.m1 (.inl rfl) (by simp[a])
 ·exact d i.m2 (.inr (.inl rfl)) (by simp[a])
 ·exact d i.m3 (.inr (.inr rfl)) (by simp[a])
theorem al.booked {w c:World} {i:ap} {v:ai} {ep now:Int} {n:Nat} {U L G:DataW Unit} (h:al w i v) (t:af [i.bb,i.c2,i.m1,i.m2,i.m3] w c) (hb:ac c i.bb (aT i.c2 v.first ep i.m1 i.m2 i.m3) 193) (hc:ac c i.c2 [.bool true, .int .i64 now] 188) (b:bf c i.m1 i.m2 i.m3 n U L G):aJ w c i v i {v with epoch:=ep,now:=now,n:=n,U:=U,L:=L,G:=G}:=by
 have e:i.cb∉[i.bb,i.c2,i.m1,i.m2,i.m3]:=by
  intro a;have d:=ez h.maps (bQ.one h.clock.ty);simp only[List.mem_cons,List.not_mem_nil,or_false]at a
  rcases a with a|a|a|a|a
  ·exact absurd (show 188=193 from(a ▸ h.clock.ty).eq h.book.ty) (by decide)
  ·exact h.two a.symm
  ·exact d i.m1 (.inl rfl) (by simp[a])
  ·exact d i.m2 (.inr (.inl rfl)) (by simp[a])
  ·exact d i.m3 (.inr (.inr rfl)) (by simp[a])
 refine⟨⟨t.blk h.vol (h.offBook h.vol.ty (by decide)),t.blk h.jour (h.offBook h.jour.ty (by decide)),t.blk h.space (h.offBook h.space.ty (by decide)),h.disk.turned t (fun x a=> ?_),t.blk h.index (h.offBook h.index.ty (by decide)),ay h.vers t (fun k f=>h.offBook (aN h.vers f) (by decide)),ay h.sealed t (fun k f=>h.offBook (aN h.sealed f) (by decide)),hb,hc,t.blk h.clock e,b,h.two,h.rp⟩,t.mono (fun x a=> ?_),fun x a=> .inl a⟩
 ·obtain⟨l,g,j⟩:=h.disk.tyIn x a
  exact h.offBook j (fun b=>by simp at g b;rcases g with rfl|rfl|rfl<;>rcases b with b|b<;>exact absurd b (by decide))
 ·simp only[List.mem_cons,List.not_mem_nil,or_false]at a
  rcases a with rfl|rfl|rfl|rfl|rfl<;>simp[ap.foot]
def aL (v:ai) (r:Rec):Rec:={r with epoch:=v.epoch,time:=v.clock}
structure jL (v:ai) (b:av):Prop where
 ok:bp v
 key:v.key.size=32
 e0:0≤v.epoch
 e1:v.epoch≤4294967295
 sealed:v.sealed.length≤1048575
 tame:jJ v.sealed
 last:(bO v.sealed).size=32
 c0:v.last.clock≤v.clock
 gen:v.last.gen≠1152921504606846976
 t1:v.clock≤1099511627776
 maps:br v.U v.L v.G b
 n:v.n≤65536
theorem jL.fitsE {v:ai} {b:av} (h:jL v b):Fits v.epoch:=by have:=h.e0;have:=h.e1;unfold Fits;omega
def jm (v:ai) (cv:Value) (bl:ByteArray):ai:={v with used:=v.used+1,d:={v.d with cv:=cv,cs:=v.d.cs++[(4+v.used,bl)]}}
def iD (v:ai) (t:Int) (q:ByteArray):ai:={v with last:=dz v t,d:=od v t q}
def cn (v:ai) (r:Rec) (cv:Value) (t bl q:ByteArray) (n:Nat) (U L G:DataW Unit):ai:=
 {iD (jm v cv bl) v.clock q with now:=v.clock,n:=n,U:=U,L:=L,G:=G,sealed:=v.sealed++[⟨aL v r,t⟩]}
def JV (w:World) (i:ap) (v:ai) (b:av) (r:Rec) (e:Ending) (w':World):Prop:=
 ∃(cv:Value) (t bl q:ByteArray) (n:Nat) (U L G:DataW Unit) (sv:Value),ah t (jj v.key.data.toList (bO v.sealed).data.toList (v.sealed.length:Int) (aL v r))∧ah bl (holdL (cD (aL v r)++t.data.toList))∧ah q (cG (dz (jm v cv bl) v.clock))∧
  br U L G (b.app (aL v r))∧n≤v.n+1∧e= .returned (.int .i64 0)∧aJ w w' i v {i with sv:=sv} (cn v r cv t bl q n U L G)
def cK (w:World) (i:ap) (v:ai) (b:av) (r:Rec) (e:Ending) (w':World):Prop:=
 if cQ v.first v.epoch v.now b (aL v r)=0 then(if bX v.last.geo v.used=0 then e= .returned (.int .i64 5)∧Below w.heap.size w w' else JV w i v b r e w')
 else e= .returned (.int .i64 (cQ v.first v.epoch v.now b (aL v r)))∧Below w.heap.size w w'
theorem bp.put {v:ai} (a:bp v) (hu:v.used<v.last.geo.blocks-5) (c:Value) (b:ByteArray):bp (jm v c b):=
 ⟨a.sup,by show 0≤v.used+1;have:=a.u0;omega,by show v.used+1≤v.last.geo.blocks-4;omega,by
  have d:=a.calm.put (i:=4+v.used) (by have:=a.u0;omega) (by have:=a.u0;omega) c b;exact d.mono (by show v.used.toNat+1≤(v.used+1).toNat;have:=a.u0;omega)⟩
theorem lI (i:ap) (v:ai) (b:av) (r:Rec) (w:World) (h:al w i v) (ey:i.rv= .pointer none) (hs:jL v b) (hk:r.kind≠1) (ex:r.name.size≤1073741824) (eD:dU):
  Calls prog 107 #[.pointer (some ⟨i.vb,0,none⟩),r.v] w fun e w'=>cK w i v b r e w':=by
 have H0:=hid h;have B:=hid hs;have fI:=hid ey;have HK:=hid hk;have fz:=hid (show(aL v r).name.size≤1073741824 from ex);have eb:=hid eD;have fv:=hid (show r.cells[1]?=some (.int .i64 r.epoch)from rfl);have fw:=hid (show(r.cells.set 1 (.int .i64 v.epoch))[2]?=some (.int .i64 r.time)from rfl);clear h hs ey hk ex eD;go_enter func107,ntmps107
 go_upto_region 1 with(first
  |((with_reducible refine ae 59 (.tmp 1) r.cells (some 3) ?hgd ?ho ?hd ?hx ?_);(case hgd|ho|hd|hx=>rfl);(intro b3 w1 l1 B1 e1 z1))
  |fail)
 have ce:=hid B1;have c5:=hid l1;have a4:=hid (e1.mono l1);have cw:=hid ((aJ.refl H0.out).below a4.out);clear B1 e1 z1 l1;refine hb (fun g=>g.cell? ⟨i.vb,5,none⟩=some (.pointer (some ⟨i.bb,0,none⟩))∧g.cell? ⟨i.vb,6,none⟩=some (.pointer (some ⟨i.cb,0,none⟩))) (⟨cw.at'.vol.drew.cell (i:=5) rfl,cw.at'.vol.drew.cell (i:=6) rfl⟩) fun c=> ?_
 obtain⟨wd,F⟩:∃g,g=w1.drew:=⟨_,rfl⟩;have b0:Below w1.heap.size w1 wd:=by rw[F];exact(Below.refl _ _).drew
 have aq:=hid (ce.below b0 ce.lt);have cl:=hid (a4.trans (b0.mono a4.size));have m:=hid ((aJ.refl H0.out).below cl.out);rw[←F];rw[←F]at c;clear F b0;refine hp 0 ?_;refine hp 1 ?_;refine hp 2 ?_;refine hp 3 ?_;refine hp 5 ?_;refine hp 6 ?_;refine hp 7 ?_;refine hp 8 ?_;refine hc 4 fun K d=> ?_
 go_simp
 refine(aR i.bb i.c2 v.first v.epoch i.m1 i.m2 i.m3 _ m.at'.book).mono ?_
 rintro e w' ⟨rfl,rfl⟩
 (try go_wp2_with fail)
 refine d.out _ _ (⟨m.at'.vol.cell (i:=5) rfl,m.at'.vol.cell (i:=6) rfl⟩) fun _=> ?_
 clear d K c;rename_i c
 (try go_frame)
 refine hp 10 ?_;refine hc 9 fun K d=> ?_
 go_simp
 refine(dC i.cb v.clock _ m.at'.clock).mono ?_
 rintro e w' ⟨rfl,rfl⟩
 (try go_wp2_with fail)
 refine d.out _ _ (⟨m.at'.vol.cell (i:=5) rfl,m.at'.vol.cell (i:=6) rfl⟩) fun _=> ?_
 clear d K c;rename_i c
 (try go_frame)
 refine hc 11 fun K d=> ?_
 have c1:=aq.cell (i:=1) fv.out;have f1:=aq.free 1;go_simp;obtain⟨we,b4⟩:∃g,g=wd.setCell ⟨b3,1,none⟩ (.int .i64 v.epoch):=⟨_,rfl⟩;have aA:=hid (show ac we b3 (r.cells.set 1 (.int .i64 v.epoch)) 59 from by rw[b4];exact aq.set 1 _);have cm:=hid (show Below w.heap.size w we from by rw[b4];exact cl.setCell (p:=⟨b3,1,none⟩) c5.out _);have cx:=hid ((aJ.refl H0.out).below cm.out);rw[←b4];clear b4 c1 f1;refine d.out _ _ (⟨cx.at'.vol.cell (i:=5) rfl,cx.at'.vol.cell (i:=6) rfl⟩) fun _=> ?_
 clear d K c;rename_i c
 (try go_frame)
 refine hp 12 ?_;refine hc 13 fun K d=> ?_
 have c2:=aA.cell (i:=2) fw.out;have f2:=aA.free 2;go_simp;obtain⟨wf,b5⟩:∃g,g=we.setCell ⟨b3,2,none⟩ (.int .i64 v.clock):=⟨_,rfl⟩;have S:=hid (show ac wf b3 ((r.cells.set 1 (.int .i64 v.epoch)).set 2 (.int .i64 v.clock)) 59 from by rw[b5];exact aA.set 2 _);have a5:=hid (show Below w.heap.size w wf from by rw[b5];exact cm.setCell (p:=⟨b3,2,none⟩) c5.out _);have bm:=hid ((aJ.refl H0.out).below a5.out);rw[←b5];clear b5 c2 f2;refine d.out _ _ (⟨bm.at'.vol.cell (i:=5) rfl,bm.at'.vol.cell (i:=6) rfl⟩) fun _=> ?_
 clear d K c;rename_i c
 (try go_frame)
 refine hd ?_;clear c;have d4:=hid (show ac wf b3 (aL v r).cells 59 from S.ext rfl);go_upto_region 2 with fail;refine hb (fun g=>g.rangeAt b3 0 (aL v r).cells∧g.cell? ⟨i.vb,5,none⟩=some (.pointer (some ⟨i.bb,0,none⟩))) (⟨d4.drew.range,bm.at'.vol.drew.cell (i:=5) rfl⟩) fun c=> ?_
 have S:=d4;obtain⟨wg,b7⟩:∃g,g=wf.drew:=⟨_,rfl⟩;have b1:Below wf.heap.size wf wg:=by rw[b7];exact(Below.refl _ _).drew
 have cf:=hid (S.below b1 S.lt);have a6:=hid (a5.trans (b1.mono a5.size));have bn:=hid ((aJ.refl H0.out).below a6.out);rw[←b7];rw[←b7]at c;clear b7 b1;refine hp 0 ?_;refine hp 1 ?_;refine hp 2 ?_;refine hp 3 ?_;refine hl 4 59 b3 0 ((aL v r).cells) (fun w h=>h.1) underlying59 aV ?_;refine hc 5 fun K d=> ?_
 go_simp
 refine(wM i.bb i.c2 i.m1 i.m2 i.m3 v.n v.first v.epoch v.now v.U v.L v.G b (aL v r) _ bn.at'.book bn.at'.maps B.maps bn.at'.bclock fz.out B.fitsE B.n eb.out).mono ?_
 rintro e wh ⟨rfl,ds⟩;have a0:=hid (cf.below ds cf.lt);have T:=hid (a6.trans (ds.mono a6.size));have bo:=hid ((aJ.refl H0.out).below T.out);clear ds
 (try go_wp2_with fail)
 refine d.out _ _ (⟨a0.range,bo.at'.vol.cell (i:=5) rfl⟩) fun _=> ?_
 clear d K c;rename_i c
 (try go_frame)
 refine hp 6 ?_;refine hd ?_;clear c;obtain⟨my,Q⟩:∃my,cQ v.first v.epoch v.now b (aL v r)=my:=⟨_,rfl⟩;rw[Q];have a8:=hid Q
 by_cases es:my=0
 case neg=>
  have fr:=hid es;clear Q;go_wp2_with fail;go_ret;unfold cK;rw[if_neg (by rw[a8.out];exact fr.out),a8.out];exact⟨rfl,T.out⟩
 subst es
 have W:=hid (show aI (aL v r)=true from by
  cases hq:aI (aL v r)with
  |true=>rfl
  |false=>
   unfold cQ at Q;rw[if_pos hq]at Q
   cases Q)
 have d6:=hid (dh W.out);clear Q;have c0:=bo.at'.vol.cell (i:=0) rfl;go_wp2_with fail
 refine(jT i v _ bo.at' B.ok).mono ?_
 rintro e wi ⟨rfl,Z⟩;have a1:=hid (a0.below Z a0.lt);have V:=hid (T.trans (Z.mono T.size));have ee:=hid ((aJ.refl H0.out).below V.out);obtain⟨rm,dT⟩:∃rm,bX v.last.geo v.used=rm:=⟨_,rfl⟩;rw[dT];have c9:=hid dT;clear Z c0 dT
 by_cases et:rm=0
 case pos=>
  subst et;go_wp2_with fail;go_ret;unfold cK;rw[if_pos a8.out,if_pos c9.out];exact⟨rfl,V.out⟩
 have fs:=hid et
 have ea:=hid (show v.used<v.last.geo.blocks-5 from by
  have h1:=c9.out;unfold bX at h1
  omega)
 go_wp2_with (first
  |((with_reducible refine aj 59 (.tmp 3) b3 ((aL v r).cells) 59 _ a1.out underlying59 rfl aV ?hgd ?ho ?hx ?_);(case hgd|ho|hx=>rfl))
  |fail)
 refine(wJ i v (aL v r) _ ee.at' fI.out B.key ⟨B.last,by omega,by have:=B.sealed;omega,W.out⟩ (by have:=d6.out;omega) (by have:=d6.out;omega) B.fitsE (by have:=B.sealed;omega)).mono ?_
 rintro e wj ⟨⟨t,bl,rfl,tt,tb⟩,dt⟩;have f0:=hid tt;have ec:=hid tb;have cg:=hid (a1.below dt a1.lt);have a7:=hid (V.trans (dt.mono V.size));have ef:=hid ((aJ.refl H0.out).below a7.out)
 have fo:=hid (show bl.size=4096 from by
  have h1:=eO W.out;have h2:t.data.toList.length=32:=by rw[show t.data.toList= _ from tt,di]
  rw[ec.size];exact gh _ (by rw[List.length_append];omega))
 clear tt tb dt
 go_upto_region 8 with(first
  |((with_reducible refine ab 61 _ oN (some 6) ?hgd ?ho ?hd ?_);(case hgd|ho|hd=>rfl);(intro b6 w6 l6 B6 e6 z6))
  |((with_reducible refine aa 61 (.tmp 6) (.tmp 42) b6 (aD.cells ⟨Rec.zero,⟨#[]⟩⟩) (aD.cells ⟨aL v r,t⟩) 61 B6 rfl fY (fE _) ?hgd ?ho ?hx ?hy ?_);(case hgd|ho|hx|hy=>rfl);(intro wk Bk ok))
  |fail)
 have dv:Below wj.heap.size wj wk:=ok.below (e6.mono l6) l6;have bt:=hid Bk;have a2:=hid (cg.below dv cg.lt);have co:=hid (a7.trans (dv.mono a7.size));have bd:=hid (ef.at'.fresh l6);have c6:=hid (H0.fresh c5.out);have cy:=hid (aJ.refl (H0.below co.out));clear B6 Bk e6 z6 ok l6 dv;have c0:=cy.at'.vol.cell (i:=0) rfl;go_wp2_with fail
 refine(mg i v bl _ cy.at' B.ok fo.out ea.out).mono ?_
 rintro e wm ⟨rfl,cv,R⟩;have M:=hid (show aJ wk wm i v i (jm v cv bl)from R);have ci:=hid (M.turned.blk a2.out c6.out);have cz:=hid (M.turned.blk bt.out bd.out);clear R c0;go_upto_region 11 with fail;refine hb (fun g=>g.cell? ⟨i.vb,0,none⟩=some (.pointer (some ⟨i.jb,0,none⟩))∧g.cell? ⟨i.vb,6,none⟩=some (.pointer (some ⟨i.cb,0,none⟩))) (⟨M.at'.vol.drew.cell (i:=0) rfl,M.at'.vol.drew.cell (i:=6) rfl⟩) fun c=> ?_
 obtain⟨wn,b8⟩:∃g,g=wm.drew:=⟨_,rfl⟩;have X:Below wm.heap.size wm wn:=by rw[b8];exact(Below.refl _ _).drew
 have gs:=hid (ci.below X ci.lt);have gv:=hid (cz.below X cz.lt);have N:=hid (M.below X);rw[←b8];rw[←b8]at c;clear b8 X;refine hp 0 ?_;refine hp 1 ?_;refine hp 2 ?_;refine hp 3 ?_;refine hp 4 ?_;refine hp 5 ?_;refine hp 6 ?_;refine hp 7 ?_;refine hc 8 fun K d=> ?_
 go_simp
 refine(dC i.cb v.clock _ N.at'.clock).mono ?_
 rintro e w' ⟨rfl,rfl⟩
 (try go_wp2_with fail)
 refine d.out _ _ (⟨N.at'.vol.cell (i:=0) rfl,N.at'.vol.cell (i:=6) rfl⟩) fun _=> ?_
 clear d K c;rename_i c
 (try go_frame)
 refine hc 9 fun K d=> ?_
 go_simp
 refine(wK i (jm v cv bl) v.clock _ N.at' (B.ok.put ea.out cv bl) B.c0 B.t1 B.gen).mono ?_
 rintro e wo ⟨rfl,q,tq,R⟩;have fT:=hid tq;have C:=hid (show aJ wk wo i v i (iD (jm v cv bl) v.clock q)from N.trans R);have a3:=hid (C.turned.blk a2.out c6.out);have cW:=hid (C.turned.blk bt.out bd.out);clear tq R
 (try go_wp2_with fail)
 refine d.out _ _ (⟨C.at'.vol.cell (i:=0) rfl,C.at'.vol.cell (i:=6) rfl⟩) fun _=> ?_
 clear d K c;rename_i c
 (try go_frame)
 refine hp 10 ?_;refine hd ?_;clear c;go_upto_region 14 with fail;refine hb (fun g=>g.rangeAt b3 0 (aL v r).cells∧g.cell? ⟨i.vb,5,none⟩=some (.pointer (some ⟨i.bb,0,none⟩))) (⟨a3.drew.range,C.at'.vol.drew.cell (i:=5) rfl⟩) fun c=> ?_
 obtain⟨wp,b9⟩:∃g,g=wo.drew:=⟨_,rfl⟩;have Y:Below wo.heap.size wo wp:=by rw[b9];exact(Below.refl _ _).drew
 have gt:=hid (a3.below Y a3.lt);have gw:=hid (cW.below Y cW.lt);have D:=hid (C.below Y);rw[←b9];rw[←b9]at c;clear b9 Y;refine hp 0 ?_;refine hp 1 ?_;refine hp 2 ?_;refine hp 3 ?_;refine hl 4 59 b3 0 ((aL v r).cells) (fun w h=>h.1) underlying59 aV ?_;refine hc 5 fun K d=> ?_
 go_simp
 refine(rI i.bb i.c2 i.m1 i.m2 i.m3 v.n v.first v.epoch v.now v.U v.L v.G b (aL v r) _ D.at'.book D.at'.maps B.maps D.at'.bclock W.out B.n eb.out a8.out (u9 D.at')).mono ?_
 rintro e wq ⟨⟨rfl,n',U',L',G',dg,em,en,Z,er⟩,eN⟩;rw[if_neg (show¬(aL v r).kind=1 from HK.out)]at dg;have fd:=hid Z;have fn:=hid er;have o:=hid (D.trans (D.at'.booked (ep:=v.epoch) (now:=v.clock) eN dg em en));have d5:=hid (o.turned.blk a2.out c6.out);have bv:=hid (o.turned.blk bt.out bd.out);clear dg em en Z er eN
 (try go_wp2_with fail)
 refine d.out _ _ (⟨d5.range,o.at'.vol.cell (i:=5) rfl⟩) fun _=> ?_
 clear d K c;rename_i c
 (try go_frame)
 refine hd ?_;clear c;go_upto_region 15 with fail;have d8:=hid (show i.sv.ownBlock≠some b6 from fun e=>bd.out (by simp only[ap.foot,List.mem_append,Option.mem_toList,Option.mem_def];exact .inr (.inr (.inr e))));have d7:=hid (show b6≠i.vb from fun e=>bd.out (by rw[e];simp[ap.foot]));have cs:=hid o.at'.vol;have d9:=hid o.at'.sealed
 have ck:=hid (fun(g:World) (sv:Value) (ht:af (i.vb::i.sv.ownBlock.toList) wq g) (hv:ac g i.vb (jA {i with sv:=sv} v.key v.data) 104) (ho:g.ownsRow 0 61 9 sv (v.sealed.length+1) (dM v.sealed++(aD.cells ⟨aL v r,t⟩))) (hn:dW wq i.sv.ownBlock sv.ownBlock)=>show cK w i v b r (.returned (.int .i64 0)) g from by
  unfold cK;rw[if_pos a8.out,if_neg (by rw[c9.out];exact fs.out)];have R:=o.at'.own (key:=v.key) (sv:=sv) (l:=v.sealed++[⟨aL v r,t⟩]) ht hv (by rw[jS,List.length_append];exact ho) (fun k hk=>hn.elim (fun h9=> .inl (by rw[←h9];exact hk)) (fun h9=> .inr (h9 k hk)));exact⟨cv,t,bl,q,n',U',L',G',sv,f0.out,ec.out,fT.out,fd.out,fn.out,rfl,aJ.ahead co.out (o.trans R)⟩)
 refine hb (fun g=>g.rangeAt b6 0 (aD.cells ⟨aL v r,t⟩)) (bv.drew.range) fun c=> ?_
 obtain⟨wd,F⟩:∃wd,wd=wq.drew:=⟨_,rfl⟩;have bx:Below wq.heap.size wq wd:=by rw[F];exact(Below.refl _ _).drew
 have o:=hid (af.refl (i.vb::(i.sv).ownBlock.toList) wq);have P:=hid (bv.below bx bv.lt);have H:=hid (cs.below bx cs.lt);have cu:=hid (own_below bx d9.out);have m:=hid (o.trans (af.of_below bx (Nat.le_refl _)));rw[←F];rw[←F]at c;clear F bx;obtain⟨i0,hi,e0,e2,e3⟩:=info_parts fg;refine hp 0 ?_;refine hp 1 ?_;refine hp 2 ?_;refine hp 3 ?_;refine hl 5 61 b6 0 ((aD.cells ⟨aL v r,t⟩)) (fun w h=>h) underlying61 fY ?_;refine hc2 4 6 (fun K d=> ?_) (fun K d=> ?_)
 ·have c4:wd.cell? ⟨i.vb,4,none⟩=some (i.sv):=H.cell (i:=4) rfl
  go_simp;clear c4
  (try go_wp2_with fail)
  refine d.out _ _ (P.range) fun _=> ?_
  clear d K c;rename_i c
  (try go_frame)
  refine hc 6 fun K d=> ?_
  refine dm 54 61 1 _ (aD.cells ⟨aL v r,t⟩) (.agg (aD.cells ⟨Rec.zero,⟨#[]⟩⟩).toArray) 9 96 underlying54 fg (by omega) (by omega) rfl (by kernel_rfl) ?_;intro g8 w8 l8 B8 e8 z8;have x:Below wd.heap.size wd w8:=e8.mono l8;have c3:=hid B8;have E:=hid (P.below x P.lt);have A:=hid (H.below x H.lt);have I:=hid (own_below x cu.out);have J:=hid (m.trans (af.of_below x (Nat.le_refl _)));clear B8 e8 z8 x l8
  (try go_wp2_with fail)
  refine d.out _ _ (E.range) fun _=> ?_
  clear d K c;rename_i c
  (try go_frame)
  refine hc 7 fun K d=> ?_
  refine cM _ _ 54 rfl i0 (.agg (aD.cells ⟨Rec.zero,⟨#[]⟩⟩).toArray) 96 underlying54 hi e0 e2 e3 rfl (by decide) rfl I.out ⟨g8,0,none⟩ 1 1 (aD.cells ⟨aL v r,t⟩) rfl rfl (bI c3.out) (fE _) (by have:=B.sealed;show v.sealed.length+1≤maxLen;unfold maxLen;omega) (by have:=B.sealed;show(v.sealed.length+1)*96≤140737488355328;omega) (Nat.zero_le _) ?_;intro v' w9 z s u;have f:w8.grownBy w9 (i.sv).ownBlock:=s;have y:dW w8 (i.sv).ownBlock v'.ownBlock:=u;clear s u;obtain⟨p9,q9,d0⟩:=az z;subst d0;have O:=hid (E.grown f (fun e=>d8.out e.symm));have j:=hid (A.grown f (fun e=>absurd (show 61=104 from(aN I.out e.symm).eq A.ty) (by decide)));have be:=hid z;have c7:=hid (y.back J.size);have bk:=hid (J.trans (af.of_grown f (fun k hk=>by simp[hk])));clear z f y
  (try go_wp2_with fail)
  refine d.out _ _ (O.range) fun _=> ?_
  clear d K c;rename_i c
  (try go_frame)
  refine hp 8 ?_;refine hp 9 ?_;have c4:=j.cell (i:=4) rfl;have f4:=j.free 4;refine hc 10 fun K d=> ?_
  go_simp;have bw:=hid (O.set_other (a:=⟨i.vb,4,none⟩) (fun e=>d7.out e) (.slice p9 (v.sealed.length+1) q9));have a9:=hid (j.set 4 (.slice p9 (v.sealed.length+1) q9));have bs:=hid (bk.setCell (b:=i.vb) (.inl (by simp)) 4 (.slice p9 (v.sealed.length+1) q9));have c8:=hid (ay be.out ((af.refl [i.vb] w9).setCell (b:=i.vb) (.inl (by simp)) 4 (.slice p9 (v.sealed.length+1) q9)) (fun k hk=>(aN be.out hk).notin (bQ.one j.ty) (by decide)));clear c4 f4
  (try go_wp2_with fail)
  refine d.out _ _ (bw.range) fun _=> ?_
  clear d K c;rename_i c
  (try go_frame)
  refine hd ?_;clear c
  (try go_wp2_with fail)
  go_ret;exact ck.out _ _ bs.out (a9.ext rfl) c8.out c7.out
 ·refine dm 54 61 1 _ (aD.cells ⟨aL v r,t⟩) (.agg (aD.cells ⟨Rec.zero,⟨#[]⟩⟩).toArray) 9 96 underlying54 fg (by omega) (by omega) rfl (by kernel_rfl) ?_
  intro g8 w8 l8 B8 e8 z8;have x:Below wd.heap.size wd w8:=e8.mono l8;have c3:=hid B8;have E:=hid (P.below x P.lt);have A:=hid (H.below x H.lt);have I:=hid (own_below x cu.out);have J:=hid (m.trans (af.of_below x (Nat.le_refl _)));clear B8 e8 z8 x l8
  (try go_wp2_with fail)
  refine d.out _ _ (E.range) fun _=> ?_
  clear d K c;rename_i c
  (try go_frame)
  refine hc 4 fun K d=> ?_
  have c4:w8.cell? ⟨i.vb,4,none⟩=some (i.sv):=A.cell (i:=4) rfl;go_simp;clear c4
  (try go_wp2_with fail)
  refine d.out _ _ (E.range) fun _=> ?_
  clear d K c;rename_i c
  (try go_frame)
  refine hc 7 fun K d=> ?_
  refine cM _ _ 54 rfl i0 (.agg (aD.cells ⟨Rec.zero,⟨#[]⟩⟩).toArray) 96 underlying54 hi e0 e2 e3 rfl (by decide) rfl I.out ⟨g8,0,none⟩ 1 1 (aD.cells ⟨aL v r,t⟩) rfl rfl (bI c3.out) (fE _) (by have:=B.sealed;show v.sealed.length+1≤maxLen;unfold maxLen;omega) (by have:=B.sealed;show(v.sealed.length+1)*96≤140737488355328;omega) (Nat.zero_le _) ?_;intro v' w9 z s u;have f:w8.grownBy w9 (i.sv).ownBlock:=s;have y:dW w8 (i.sv).ownBlock v'.ownBlock:=u;clear s u;obtain⟨p9,q9,d0⟩:=az z;subst d0;have O:=hid (E.grown f (fun e=>d8.out e.symm));have j:=hid (A.grown f (fun e=>absurd (show 61=104 from(aN I.out e.symm).eq A.ty) (by decide)));have be:=hid z;have c7:=hid (y.back J.size);have bk:=hid (J.trans (af.of_grown f (fun k hk=>by simp[hk])));clear z f y
  (try go_wp2_with fail)
  refine d.out _ _ (O.range) fun _=> ?_
  clear d K c;rename_i c
  (try go_frame)
  refine hp 8 ?_;refine hp 9 ?_;have c4:=j.cell (i:=4) rfl;have f4:=j.free 4;refine hc 10 fun K d=> ?_
  go_simp;have bw:=hid (O.set_other (a:=⟨i.vb,4,none⟩) (fun e=>d7.out e) (.slice p9 (v.sealed.length+1) q9));have a9:=hid (j.set 4 (.slice p9 (v.sealed.length+1) q9));have bs:=hid (bk.setCell (b:=i.vb) (.inl (by simp)) 4 (.slice p9 (v.sealed.length+1) q9));have c8:=hid (ay be.out ((af.refl [i.vb] w9).setCell (b:=i.vb) (.inl (by simp)) 4 (.slice p9 (v.sealed.length+1) q9)) (fun k hk=>(aN be.out hk).notin (bQ.one j.ty) (by decide)));clear c4 f4
  (try go_wp2_with fail)
  refine d.out _ _ (bw.range) fun _=> ?_
  clear d K c;rename_i c
  (try go_frame)
  refine hd ?_;clear c
  (try go_wp2_with fail)
  go_ret;exact ck.out _ _ bs.out (a9.ext rfl) c8.out c7.out
structure Sz (n:Nat):Prop where
 le:n≤9223372036854775807
theorem rJ {s:ByteArray} (h:bN s.data.toList=true):s.size≤1073741824:=by
 unfold bN at h;simp only[Bool.and_eq_true,decide_eq_true_eq]at h
 have:s.data.toList.length=s.size:=rfl
 omega
theorem ub (s:ByteArray) (w:World) (t:Sz s.size):
  Calls prog 108 #[.string s] w fun e w'=>e= .returned (.bool (bN s.data.toList))∧w=w':=by
 have hl:s.data.toList.length=s.size:=rfl;have h:=hid hl;clear hl
 have p:∀k:Nat,k<s.size→IntKind.i64.wrap ((k:Int)+1)=(k:Int)+1:=fun k x=>by
  have:=t.le
  rw[IntKind.wrap_i64];omega
 have j:=hid p;clear t p
 by_cases q:s.size=0
 ·have u:=emptyText (s:=s) (by omega)
  have o:=hid q;clear q;go_enter func108,ntmps108;go_wp2_with fail;go_loop [6] (fun i=>i= .int .i64 0) (fun _=>0)
  case atStart=>rfl
  case round=>
   subst hrel;have y:(s.size:Int)≤0:=by have:=o.out;omega
   go_wp2_with fail;go_ret;exact⟨dX (by unfold bN;rw[h.out,o.out];rfl),rfl⟩
 have u:=kE (s:=s) (by omega);go_enter func108,ntmps108;go_wp2_with fail;go_loop [6] (fun i=>∃k:Nat,k≤s.size∧i= .int .i64 k∧(s.data.toList.take k).all dS=true) (fun i=>s.size-(intOf i).toNat)
 case atStart=>exact⟨0,by omega,rfl,rfl⟩
 case round=>
  obtain⟨k,x,rfl,a⟩:=hrel;have m:=hid a;clear a
  by_cases d:k<s.size
  ·have r:(k:Int)<s.size:=by omega
   obtain⟨c,hc⟩:∃c,s[k]=c:=⟨_,rfl⟩;have b:s.data.toList[k]?=some c:=by rw[List.getElem?_eq_getElem (by rw[h.out];exact d),←hc];rfl
   have n:=hid b;clear b;have v:=c.toNat_lt;have f:=j.out k d;have g:wrap64 ((k:Int)+1)=(k:Int)+1:=(IntWalk.i64_left _).symm.trans f;go_wp2_with fail
   all_goals try(
    go_round
    case rel=>
     refine⟨k+1,by omega,by first|rfl|(rw[f];rfl)|(rw[g];rfl)|go_num, ?_⟩;rw[Ar _ _ _ n.out,m.out];simp only[Bool.true_and]
     cases hb:dS c with
     |true=>rfl
     |false=>rw[nj]at hb;exfalso;simp_all;omega
    case measure=>simp[intOf];omega)
   all_goals
    go_ret;refine⟨dX ?_,rfl⟩;have l:dS c=false:=by rw[nj];simp_all;omega
    unfold bN;rw[Ho n.out l];simp
  ·obtain rfl:k=s.size:=by omega
   go_wp2_with fail
   all_goals go_ret
   all_goals refine⟨dX ?_,rfl⟩
   all_goals
    have a:=m.out;rw[List.take_of_length_le (by rw[h.out];omega)]at a;unfold bN;rw[a,h.out];rw[show decide ((s.size:Int)≤16)=decide (s.size≤16)from decide_eq_decide.2 (by omega),decide_eq_true (show 1≤s.size by omega)];simp
def eH (v:ai) (ep:Int):Int:=if ep<v.last.geo.first∨v.epoch<ep then 7 else if ep=v.epoch then 8 else 0
theorem lr (i:ap) (v:ai) (ep:Int) (w:World) (h:al w i v):
  Calls prog 57 #[.pointer (some ⟨i.vb,0,none⟩), .int .i64 ep] w fun e w'=>e= .returned (.int .i64 (eH v ep))∧Below w.heap.size w w':=by
 have A:∀(a b c:Int) (w:World),Sem.run prog (Instr.field 23 (.agg #[.int .i64 a, .int .i64 b, .int .i64 c]) 2) w= .ok (.int .i64 c) w:=fun _ _ _ _=>by kernel_rfl
 have p:=hid (fun(m:World) (u:al m i v)=>iL i v m u);unfold eH;obtain⟨⟨blocks,q,first⟩,hl⟩:∃s,v.last.geo=s:=⟨_,rfl⟩;rw[hl]
 have l:=hid (fun(m:World) (u:al m i v)=>show Calls prog 49 #[.pointer (some ⟨i.vb,0,none⟩)] m fun e w'=>e= .returned (.agg #[.int .i64 blocks, .int .i64 q, .int .i64 first])∧Below m.heap.size m w' from by
  have:=p.out m u
  rw[hl]at this;exact this)
 obtain⟨ve,n⟩:∃ve,v.epoch=ve:=⟨_,rfl⟩;rw[n];have k:=hid n;have g:=hid h;clear p hl n h;simp only
 by_cases y:ep<first
 ·rw[if_pos (.inl y)]
  go_enter func57,ntmps57;go_wp2_with fail
  refine(aP i v _ g.out).mono ?_
  rintro e w' ⟨rfl,rfl⟩;go_wp2_with fail
  refine(l.out _ g.out).mono ?_
  rintro e o ⟨rfl,d⟩;have f:=hid d;have j:=hid (g.below d);have t:o.cell? ⟨i.vb,5,none⟩=some (.pointer (some ⟨i.bb,0,none⟩)):=j.vol.cell (i:=5) rfl;clear d;go_wp2_with fail;go_ret;exact⟨rfl,f.out⟩
 by_cases z:ve<ep
 ·rw[if_pos (.inr z)]
  go_enter func57,ntmps57;go_wp2_with fail
  refine(aP i v _ g.out).mono ?_
  rintro e w' ⟨rfl,rfl⟩;go_wp2_with fail
  refine(l.out _ g.out).mono ?_
  rintro e o ⟨rfl,d⟩;have f:=hid d;have j:=hid (g.below d);have t:o.cell? ⟨i.vb,5,none⟩=some (.pointer (some ⟨i.bb,0,none⟩)):=j.vol.cell (i:=5) rfl;clear d;go_wp2_with fail
  refine(aR i.bb i.c2 v.first ve i.m1 i.m2 i.m3 _ (by rw[←k.out];exact j.book)).mono ?_
  rintro e w' ⟨rfl,rfl⟩;go_wp2_with fail;go_ret;exact⟨rfl,f.out⟩
 rw[if_neg (by omega)]
 by_cases r:ep=ve
 ·rw[if_pos r]
  have x:=hid r;subst r;go_enter func57,ntmps57;go_wp2_with fail
  refine(aP i v _ g.out).mono ?_
  rintro e w' ⟨rfl,rfl⟩;go_wp2_with fail
  refine(l.out _ g.out).mono ?_
  rintro e o ⟨rfl,d⟩;have f:=hid d;have j:=hid (g.below d);have t:o.cell? ⟨i.vb,5,none⟩=some (.pointer (some ⟨i.bb,0,none⟩)):=j.vol.cell (i:=5) rfl;clear d;go_wp2_with fail
  refine(aR i.bb i.c2 v.first ep i.m1 i.m2 i.m3 _ (by rw[←k.out];exact j.book)).mono ?_
  rintro e w' ⟨rfl,rfl⟩;go_wp2_with fail
  refine(aR i.bb i.c2 v.first ep i.m1 i.m2 i.m3 _ (by rw[←k.out];exact j.book)).mono ?_
  rintro e w' ⟨rfl,rfl⟩;go_wp2_with fail;go_ret;exact⟨rfl,f.out⟩
 rw[if_neg r];go_enter func57,ntmps57;go_wp2_with fail
 refine(aP i v _ g.out).mono ?_
 rintro e w' ⟨rfl,rfl⟩;go_wp2_with fail
 refine(l.out _ g.out).mono ?_
 rintro e o ⟨rfl,d⟩;have f:=hid d;have j:=hid (g.below d);have t:o.cell? ⟨i.vb,5,none⟩=some (.pointer (some ⟨i.bb,0,none⟩)):=j.vol.cell (i:=5) rfl;clear d;go_wp2_with fail
 refine(aR i.bb i.c2 v.first ve i.m1 i.m2 i.m3 _ (by rw[←k.out];exact j.book)).mono ?_
 rintro e w' ⟨rfl,rfl⟩;go_wp2_with fail
 refine(aR i.bb i.c2 v.first ve i.m1 i.m2 i.m3 _ (by rw[←k.out];exact j.book)).mono ?_
 rintro e w' ⟨rfl,rfl⟩;go_wp2_with fail;go_ret;exact⟨rfl,f.out⟩
def bM (q:Int) (w w':World) (e:Ending) (P:Prop):Prop:=if q=0 then P else e= .returned (.int .i64 q)∧Below w.heap.size w w'
theorem cK.lead {w0 w w':World} {i:ap} {v:ai} {b:av} {r:Rec} {e:Ending} (h:cK w i v b r e w') (hb:Below w0.heap.size w0 w):cK w0 i v b r e w':=by
 unfold cK at h ⊢
 by_cases a:cQ v.first v.epoch v.now b (aL v r)=0
 ·rw[if_pos a]at h ⊢
  by_cases c:bX v.last.geo v.used=0
  ·rw[if_pos c]at h ⊢
   exact⟨h.1,hb.trans (h.2.mono hb.size)⟩
  ·rw[if_neg c]at h ⊢
   obtain⟨f,t,d,q,n,U,L,G,sv,g,j,k,l,m,o,p⟩:=h;exact⟨f,t,d,q,n,U,L,G,sv,g,j,k,l,m,o,p.ahead hb⟩
 ·rw[if_neg a]at h ⊢
  exact⟨h.1,hb.trans (h.2.mono hb.size)⟩
theorem BB (e u:Int):prog.built 59 [(0, .int .i64 2),(4, .int .i64 e),(5, .int .i64 u)]=some (Rec.cells ⟨2,0,0,0,e,u,⟨#[]⟩,⟨#[]⟩⟩).toArray:=by kernel_rfl
theorem FP (e:Int) (n:ByteArray):prog.built 59 [(0, .int .i64 3),(4, .int .i64 e),(7, .string n)]=some (Rec.cells ⟨3,0,0,0,e,0,⟨#[]⟩,n⟩).toArray:=by kernel_rfl
theorem zu (n:ByteArray):prog.built 59 [(0, .int .i64 4),(7, .string n)]=some (Rec.cells ⟨4,0,0,0,0,0,⟨#[]⟩,n⟩).toArray:=by kernel_rfl
def nE (v:ai) (ep u:Int):Int:=if eH v ep=0 then(if u<0∨1099511627776<u then 2 else 0)else eH v ep
theorem bM.no {q k:Int} {w a:World} {P:Prop} (c:q=k) (b:k≠0) (hb:Below w.heap.size w a):bM q w a (.returned (.int .i64 k)) P:=by
 unfold bM;subst c;rw[if_neg b];exact⟨rfl,hb⟩
theorem bM.yes {q:Int} {w b:World} {e:Ending} {P:Prop} (a:q=0) (h:P):bM q w b e P:=by
 unfold bM;rw[if_pos a];exact h
theorem cK.ret {w c:World} {i:ap} {v:ai} {b:av} {r:Rec} {e:Ending} (h:cK w i v b r e c):∃k,e= .returned (.int .i64 k):=by
 unfold cK at h
 split at h
 ·split at h
  ·exact⟨5,h.1⟩
  ·obtain⟨f,t,d,q,n,U,L,G,sv,g,j,l,m,o,a,p⟩:=h
   exact⟨0,a⟩
 ·exact⟨_,h.1⟩
theorem zv (i:ap) (v:ai) (b:av) (ep u:Int) (w:World) (h:al w i v) (l:i.rv= .pointer none) (s:jL v b) (m:dU):
  Calls prog 35 #[.pointer (some ⟨i.vb,0,none⟩), .int .i64 ep, .int .i64 u] w fun e t=>bM (nE v ep u) w t e (cK w i v b ⟨2,0,0,0,ep,u,⟨#[]⟩,⟨#[]⟩⟩ e t):=by
 have j:=hid (lr i v ep w h);have o:=hid (fun(x:World) (E:al x i v)=>lI i v b ⟨2,0,0,0,ep,u,⟨#[]⟩,⟨#[]⟩⟩ x E l s (show¬(2:Int)=1 by decide) (show 0≤1073741824 by decide) m);have y:=hid h;obtain⟨q,p⟩:∃q,eH v ep=q:=⟨_,rfl⟩;rw[p]at j;have r:=hid p;clear h l s m p;go_enter func35,ntmps35;go_wp2_with fail;refine j.mono ?_;rintro e F ⟨rfl,f⟩;have a:=hid f;have z:=hid (y.below f);clear f
 by_cases n:q=0
 ·have c:=hid (show eH v ep=0 by rw[r.out,n])
  subst n
  by_cases C:u<0
  ·have d:=hid (show nE v ep u=2 by unfold nE;rw[if_pos c.out,if_pos (.inl C)])
   go_wp2_with fail;go_ret;exact bM.no d.out (by decide) a.out
  by_cases D:1099511627776<u
  ·have d:=hid (show nE v ep u=2 by unfold nE;rw[if_pos c.out,if_pos (.inr D)])
   go_wp2_with fail;go_ret;exact bM.no d.out (by decide) a.out
  have d:=hid (show nE v ep u=0 by unfold nE;rw[if_pos c.out,if_neg (by omega)])
  go_wp2_with (first
    |((with_reducible refine au 59 ?parts23 (Rec.cells ⟨2,0,0,0,ep,u,⟨#[]⟩,⟨#[]⟩⟩) ?hg ?ho ?hf ?_);(case hg|ho=>rfl);(case hf=>exact BB _ _))
    |fail)
  refine(o.out _ z.out).mono ?_
  intro e G g;have B:=hid (g.lead a.out);obtain⟨k,rfl⟩:=g.ret;clear g;go_wp2_with fail;go_ret;exact bM.yes d.out B.out
 ·have d:=hid (show nE v ep u=q by unfold nE;rw[r.out,if_neg n])
  have A:=hid n;go_wp2_with fail;go_ret;exact bM.no d.out A.out a.out
def qV (v:ai) (ep:Int) (n:ByteArray):Int:=if bN n.data.toList=true then eH v ep else 2
theorem DR (i:ap) (v:ai) (b:av) (ep:Int) (n:ByteArray) (w:World) (h:al w i v) (j:i.rv= .pointer none) (z:jL v b) (l:dU) (hn:Sz n.size):
  Calls prog 36 #[.pointer (some ⟨i.vb,0,none⟩), .int .i64 ep, .string n] w fun e o=>bM (qV v ep n) w o e (cK w i v b ⟨3,0,0,0,ep,0,⟨#[]⟩,n⟩ e o):=by
 have f:=hid (lr i v ep w h);have r:=hid (fun(F:bN n.data.toList=true) (A:World) (G:al A i v)=>lI i v b ⟨3,0,0,0,ep,0,⟨#[]⟩,n⟩ A G j z (show¬(3:Int)=1 by decide) (rJ F) l);have u:=hid h;obtain⟨q,t⟩:∃q,eH v ep=q:=⟨_,rfl⟩;rw[t]at f;have E:=hid t;obtain⟨m,s⟩:∃m,bN n.data.toList=m:=⟨_,rfl⟩;have p:=hid s;have g:=hid (ub n w hn);rw[s]at g;clear h j z l t hn s;go_enter func36,ntmps36;go_wp2_with fail
 refine(aP i v _ u.out).mono ?_
 rintro e o ⟨rfl,rfl⟩;go_wp2_with fail;refine g.mono ?_;rintro e o ⟨rfl,rfl⟩
 cases m with
 |false=>
  go_wp2_with fail;go_ret;exact bM.no (show qV v ep n=2 by unfold qV;rw[p.out];rfl) (by decide) (Below.refl _ _)
 |true=>
 go_wp2_with fail;refine f.mono ?_;rintro e H ⟨rfl,a⟩;have d:=hid a;have B:=hid (u.below a);clear a;have x:=hid (show qV v ep n=q by unfold qV;rw[p.out,E.out];rfl)
 by_cases y:q=0
 ·subst y
  go_wp2_with (first
    |((with_reducible refine au 59 ?parts24 (Rec.cells ⟨3,0,0,0,ep,0,⟨#[]⟩,n⟩) ?hg ?ho ?hf ?_);(case hg|ho=>rfl);(case hf=>exact FP _ _))
    |fail)
  refine(r.out p.out _ B.out).mono ?_
  intro e I c;have D:=hid (c.lead d.out);obtain⟨k,rfl⟩:=c.ret;clear c;go_wp2_with fail;go_ret;exact bM.yes x.out D.out
 ·have C:=hid y
  go_wp2_with fail;go_ret;exact bM.no x.out C.out d.out
def vf (n:ByteArray):Int:=if bN n.data.toList=true then 0 else 2
theorem xM (i:ap) (v:ai) (b:av) (n:ByteArray) (w:World) (h:al w i v) (d:i.rv= .pointer none) (q:jL v b) (f:dU) (hn:Sz n.size):
  Calls prog 37 #[.pointer (some ⟨i.vb,0,none⟩), .string n] w fun e g=>bM (vf n) w g e (cK w i v b ⟨4,0,0,0,0,0,⟨#[]⟩,n⟩ e g):=by
 have l:=hid (fun(u:bN n.data.toList=true) (r:World) (x:al r i v)=>lI i v b ⟨4,0,0,0,0,0,⟨#[]⟩,n⟩ r x d q (show¬(4:Int)=1 by decide) (rJ u) f);have p:=hid h;obtain⟨m,o⟩:∃m,bN n.data.toList=m:=⟨_,rfl⟩;have j:=hid o;have c:=hid (ub n w hn);rw[o]at c;clear h d q f hn o;go_enter func37,ntmps37;go_wp2_with fail
 refine(aP i v _ p.out).mono ?_
 rintro e g ⟨rfl,rfl⟩;go_wp2_with fail;refine c.mono ?_;rintro e g ⟨rfl,rfl⟩
 cases m with
 |false=>
  go_wp2_with fail;go_ret;exact bM.no (show vf n=2 by unfold vf;rw[j.out];rfl) (by decide) (Below.refl _ _)
 |true=>
  have t:=hid (show vf n=0 by unfold vf;rw[j.out];rfl)
  go_wp2_with (first
    |((with_reducible refine au 59 ?parts15 (Rec.cells ⟨4,0,0,0,0,0,⟨#[]⟩,n⟩) ?hg ?ho ?hf ?_);(case hg|ho=>rfl);(case hf=>exact zu _))
    |fail)
  refine(l.out j.out _ p.out).mono ?_
  intro e y a;have s:=hid a;obtain⟨k,rfl⟩:=a.ret;clear a;go_wp2_with fail;go_ret;exact bM.yes t.out s.out
theorem uc (i:ap) (v:ai) (w:World) (h:al w i v) (x:bp v) (s:v.last.clock≤v.clock) (t:v.clock≤1099511627776) (u:v.last.gen≠1152921504606846976):
  Calls prog 10 #[.pointer (some ⟨i.vb,0,none⟩)] w fun e r=>e= .returned (.int .i64 0)∧∃q,ah q (cG (dz v v.clock))∧aJ w r i v i (iD v v.clock q):=by
 have k:=hid h;have n:=hid x;have o:=hid (And.intro s (And.intro t u));clear h x s t u;go_enter func10,ntmps10;go_wp2_with fail
 refine(aP i v _ k.out).mono ?_
 rintro e r ⟨rfl,rfl⟩;go_upto_region 3 with fail;refine hb (fun l=>l.cell? ⟨i.vb,0,none⟩=some (.pointer (some ⟨i.jb,0,none⟩))∧l.cell? ⟨i.vb,6,none⟩=some (.pointer (some ⟨i.cb,0,none⟩))) (⟨k.vol.drew.cell (i:=0) rfl,k.vol.drew.cell (i:=6) rfl⟩) fun a=> ?_
 obtain⟨wd,c⟩:∃l,l=w.drew:=⟨_,rfl⟩;have f:Below w.heap.size w wd:=by rw[c];exact(Below.refl _ _).drew
 have m:=hid f;have b:=hid (k.below f);rw[←c];rw[←c]at a;clear c f;refine hp 0 ?_;refine hp 1 ?_;refine hp 2 ?_;refine hp 3 ?_;refine hp 4 ?_;refine hp 5 ?_;refine hp 6 ?_;refine hp 7 ?_;refine hc 8 fun K g=> ?_
 go_simp
 refine(dC i.cb v.clock _ b.clock).mono ?_
 rintro e r ⟨rfl,rfl⟩
 (try go_wp2_with fail)
 refine g.out _ _ (⟨b.vol.cell (i:=0) rfl,b.vol.cell (i:=6) rfl⟩) fun _=> ?_
 clear g K a;rename_i a
 (try go_frame)
 refine hc 9 fun K g=> ?_
 go_simp
 refine(wK i v v.clock _ b.out n.out o.out.1 o.out.2.1 o.out.2.2).mono ?_
 rintro e z ⟨rfl,q,y,j⟩;have p:=hid y;have d:=hid (show aJ wd z i v i (iD v v.clock q)from j);clear y j
 (try go_wp2_with fail)
 refine g.out _ _ (⟨d.at'.vol.cell (i:=0) rfl,d.at'.vol.cell (i:=6) rfl⟩) fun _=> ?_
 clear g K a;rename_i a
 (try go_frame)
 refine hp 10 ?_;refine hd ?_;clear a;go_wp2_with fail;go_ret;exact⟨rfl,q,p.out,aJ.ahead m.out d.out⟩
def fN (now t:Int):Int:=if t<0∨1099511627776<t then 2 else if t<now then 11 else 0
theorem sE (c:Nat) (now t:Int) (w:World) (h:ac w c [.bool true, .int .i64 now] 188) (j:¬fN now t=0):
  Calls prog 112 #[.pointer (some ⟨c,0,none⟩), .int .i64 t] w fun e w'=>e= .returned (.int .i64 (fN now t))∧w=w':=by
 have o:∀(f:Fn) (first b:Array Value) (w:World),(Instr.makeFunc f first b).run prog w= .ok (.func f first b) w:=fun _ _ _ _=>rfl
 have p:=h.cell (i:=1) rfl;have d:=hid h;have l:=hid j;clear h j
 by_cases m:t<0
 ·have a:=hid (show fN now t=2 by unfold fN;rw[if_pos (.inl m)])
  go_enter func112,ntmps112;go_wp2_with fail
  refine(fR c now _ d.out).mono ?_
  rintro e k ⟨rfl,rfl⟩;go_wp2_with fail;go_ret;exact⟨by rw[a.out];rfl,rfl⟩
 by_cases n:1099511627776<t
 ·have a:=hid (show fN now t=2 by unfold fN;rw[if_pos (.inr n)])
  go_enter func112,ntmps112;go_wp2_with fail
  refine(fR c now _ d.out).mono ?_
  rintro e k ⟨rfl,rfl⟩;go_wp2_with fail;go_ret;exact⟨by rw[a.out];rfl,rfl⟩
 by_cases g:t<now
 ·have a:=hid (show fN now t=11 by unfold fN;rw[if_neg (by omega),if_pos g])
  go_enter func112,ntmps112;go_wp2_with fail
  refine(fR c now _ d.out).mono ?_
  rintro e k ⟨rfl,rfl⟩;go_wp2_with fail;go_ret;exact⟨by rw[a.out];rfl,rfl⟩
 exact absurd (show fN now t=0 by unfold fN;rw[if_neg (by omega),if_neg g]) l.out
theorem al.ticked {w e:World} {i:ap} {v:ai} {t:Int} (h:al w i v) (a:af [i.cb] w e) (hb:ac e i.cb [.bool true, .int .i64 t] 188):aJ w e i v i {v with clock:=t}:=by
 have b:=bQ.one h.clock.ty;exact⟨⟨a.blk h.vol (h.vol.ty.notin b (by decide)),a.blk h.jour (h.jour.ty.notin b (by decide)),a.blk h.space (h.space.ty.notin b (by decide)),h.disk.turned a (iZ h.disk b (by decide)),a.blk h.index (h.index.ty.notin b (by decide)),ay h.vers a (fun k d=>(aN h.vers d).notin b (by decide)),ay h.sealed a (fun k d=>(aN h.sealed d).notin b (by decide)),a.blk h.book (h.book.ty.notin b (by decide)),a.blk h.bclock (by simpa using h.two),hb,h.maps.turned a (ez h.maps b),h.two,h.rp⟩,a.mono (fun x c=>by simp at c;subst c;simp[ap.foot]),fun x c=> .inl c⟩
theorem DT (i:ap) (v:ai) (t:Int) (w:World) (h:al w i v):
  Calls prog 39 #[.pointer (some ⟨i.vb,0,none⟩), .int .i64 t] w fun e f=>bM (fN v.clock t) w f e (e= .returned (.int .i64 0)∧aJ w f i v i {v with clock:=t}):=by
 have b:=hid h;have l:=h.vol.cell (i:=6) rfl;clear h;go_enter func39,ntmps39;go_wp2_with fail
 refine(aP i v _ b.out).mono ?_
 rintro e f ⟨rfl,rfl⟩;go_wp2_with fail
 by_cases a:fN v.clock t=0
 ·have c:=hid a
  have d:=hid (show(0≤t∧t≤1099511627776)∧v.clock≤t by
   unfold fN at a
   split at a
   ·cases a
   ·split at a
    ·cases a
    ·omega)
  clear a
  refine(ku i.cb v.clock t _ b.clock d.out.1.1 d.out.1.2 d.out.2).mono ?_
  rintro e k ⟨⟨rfl,hb⟩,g⟩;have j:=hid (b.ticked g hb);clear hb g;go_wp2_with fail;go_ret;exact bM.yes c.out ⟨rfl,j.out⟩
 ·have c:=hid a
  clear a
  refine(sE i.cb v.clock t _ b.clock c.out).mono ?_
  rintro e k ⟨rfl,rfl⟩;go_wp2_with fail;go_ret;exact bM.no rfl c.out (Below.refl _ _)
theorem lJ {P:Program} (w:World) (m s u d:TypeId) (size g o c f:Nat) (a:Addr) (e l:Nat) (b:Array Value) (t:TypeId) (cs:List Value)
  (hu:P.underlying m=some (.slice d)) (n:(P.info? d).map (·.size)=some size) (q:w.heap[g]?=some (.cells b t (0,0))) (hn:cs.length=Nat.min e c*size)
  (k:∀j v,cs[j]?=some v→w.cell? (a.add j)=some v) (h:o+cs.length≤b.size) (p:∀v∈cs,v.oneCell'=true):
  (Builtin.copy_ #[m,s] u #[.slice (some ⟨g,o,none⟩) c f, .slice (some a) e l]).run P w=
   .ok (goInt (Nat.min e c)) (w.setRow g (b.toList.take o++cs++b.toList.drop (o+cs.length)).toArray):=by
 have hl:=run_loadCells_list (P:=P) w a cs k;have bA:=run_storeCells_at P g o t cs 0 b w q (by simpa using h) p
 cases hq:P.info? d with
 |none=>simp[hq]at n
 |some i=>
  have r:i.size=size:=by simpa[hq]using n
  simp[Builtin.copy_,run_underlying hu,Builtin.lenOf,Builtin.firstCells,sizeOf,typeInfo,hq,r,←hn,hl,bA]
theorem DU {P:Program} (w:World) {o:Oper} {a:Act} {K:Act→World→Prop} {Q:Exit→Act→World→Prop} (d s:Operand) (t b:TypeId)
  (f:o.op= .call {callee:= .builtin .copy,args:=#[d,s],argTypes:=#[t,b]}) (v u:Value) (hd:a.eval d=v) (i:a.eval s=u) {c:Value} {e:World}
  (g:(Builtin.copy_ #[t,b] o.type #[v,u]).run P w= .ok c e) (h:K (a.put o.dst c) e):o.wp P a w K Q:=by
 unfold Oper.wp execOp;simp only[f,resolve,invoke,builtin,Sem.run_bind,Sem.run_pure,Result.andThen_ok,List.map_toArray,List.map_cons,List.map_nil,hd,i,g];exact h
theorem oi {P:Program} (w:World) {c:Array Oper} {b:List Oper} {o:Oper} {a:Act} {Q:Exit→Act→World→Prop} (e:o.guard=none) (d s:Operand) (t f:TypeId)
  (j:o.op= .call {callee:= .builtin .copy,args:=#[d,s],argTypes:=#[t,f]}) (v u:Value) (hd:a.eval d=v) (l:a.eval s=u) {g:Value} {i:World}
  (k:(Builtin.copy_ #[t,f] o.type #[v,u]).run P w= .ok g i) (h:wpList P c Q b (a.put o.dst g) i):wpList P c Q (o::b) a w:=
 wpList_plain e fun _ hK=>DU w d s t f j v u hd l k (hK _ _ h)
theorem qe {P:Program} {b:Array Oper} {o:Oper} {a:Act} {w:World} {K:Act→World→Prop} {Q:Exit→Act→World→Prop} {E:Prop}
  (j:o.guard=none) (d x:Operand) (e f:TypeId) (c:o.op=Op.call {callee:=Callee.builtin Builtin.copy,args:=#[d,x],argTypes:=#[e,f]})
  (v u:Value) (hd:a.eval d=v) (m:a.eval x=u) {g:Value} {h:World} (k:(Builtin.copy_ #[e,f] o.type #[v,u]).run P w= .ok g h) (i:K (a.put o.dst g) h):
  if Region.wanted o (yielded b a.tmps)=true then Oper.wp P o a w K Q else E:=by
 have l:Region.wanted o (yielded b a.tmps)=true:=by simp[Region.wanted,j]
 rw[if_pos l];unfold Oper.wp;simp[execOp,c,resolve,invoke,builtin,hd,m,k,Result.andThen];exact i
end Go.Proofs.YtadooplpfhdhcaaGreat
