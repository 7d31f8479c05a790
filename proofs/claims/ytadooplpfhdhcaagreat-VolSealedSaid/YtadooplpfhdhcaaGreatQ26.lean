/- A block's cell that holds a row, behind an append to it. No program in sight. A record is sealed (chapter 26): whatever record, whatever book; where there is no ring. May bytes be a name (chapter 19), of any length. -/
import Derived.Test.YtadooplpfhdhcaaGreatQ4
import Derived.Test.YtadooplpfhdhcaaGreatQ2
import Derived.Test.YtadooplpfhdhcaaGreatQ7
import Derived.Test.YtadooplpfhdhcaaGreatQ22
import Derived.Test.YtadooplpfhdhcaaGreatQ24
import Derived.Test.YtadooplpfhdhcaaGreatQ23
import Derived.Test.YtadooplpfhdhcaaGreatQ25
import Derived.Test.YtadooplpfhdhcaaGreatQ6
import Derived.Test.YtadooplpfhdhcaaGreatQ18
import Derived.Laws.CopyRow
import Derived.Laws.AppendOwn
import Derived.Laws.NewBlocks
import Derived.Lib.Overlaps
import Derived.Lib.AppendZerosOnto
set_option linter.unusedSimpArgs false
set_option linter.unusedVariables false
set_option maxRecDepth 100000
set_option maxHeartbeats 4000000
namespace Go.Proofs.YtadooplpfhdhcaaGreat
open Go Go.RowKit
open Go.Lib (hid)
open Go.Proofs.Tryz
theorem eI.back {u w:World} {a b:Option Nat} (h:eI u a b) (d:w.heap.size≤u.heap.size):eI w a b:=h.imp id (fun h k c=>Nat.le_trans d (h k c))
theorem eI.or {u:World} {a b:Option Nat} (h:eI u a b):∀k,b=some k→a=some k∨u.heap.size≤k:=fun k c=>h.elim (fun e=> .inl (by rw[←e];exact c)) (fun f=> .inr (f k c))
theorem KU {w:World} {g n m:Nat} {cs:List Value} {e:TypeId} (h:ac w g cs e) (hl:cs.length=n*m) (hn:n≤9223372036854775807):w.ownsRow 0 e m (.slice (some ⟨g,0,none⟩) n n) n cs:=
 ⟨hl, .inr ⟨g,n,cs.toArray,rfl,Nat.zero_le _,h,Nat.le_refl _,hn,by simpa using hl,by rw[←hl];simp⟩⟩
structure Ag (w w':World) (b k:Nat) (cs:List Value) (t e:TypeId) (m:Nat) (lv:Value) (n:Nat) (xs:List Value):Prop where
 ex:∃lv',w'.ownsRow 0 e m lv' n xs∧ac w' b (cs.set k lv') t∧ai (b::lv.ownBlock.toList) w w'∧eI w lv.ownBlock lv'.ownBlock
theorem Ag.lead {w0 w c:World} {b k:Nat} {cs:List Value} {t e:TypeId} {m:Nat} {a:Value} {n:Nat} {xs:List Value} (h:Ag w c b k cs t e m a n xs) (hb:Below w0.heap.size w0 w):Ag w0 c b k cs t e m a n xs:=
 ⟨h.ex.imp fun d ⟨h1,h2,h3,h4⟩=>⟨h1,h2,(ai.of_below hb (Nat.le_refl _)).trans h3,h4.back hb.size⟩⟩
section
variable {P:Program} {o:Oper} {a:Act} {w:World} {K:Act→World→Prop} {Q:Exit→Act→World→Prop}
theorem qO (b:TypeId) (z:List Value) (e:∀w,(zeroValue b).run P w= .ok (.agg z.toArray) w) (d:o.op= .alloc b)
  (h:∀n c,w.heap.size≤n→ac c n z b→Below n w c→n<c.heap.size→K (a.put o.dst (.pointer (some ⟨n,0,none⟩))) c):o.wp P a w K Q:=by
 unfold Oper.wp execOp;simp only[d,Instr.alloc,Sem.run_bind,e,Result.andThen_ok,newVar,newRow,Value.cells,run_newObj,Sem.run_pure];exact h _ _ (Nat.le_refl _) (ac.new w z b) ((Below.refl _ _).alloc (Nat.le_refl _) _) (by simp)
end
open Go.Maps Go.WideMaps
theorem am.offBook {w:World} {i:ar} {v:ak} (h:am w i v) {b:Nat} {t:TypeId} (hb:Ty w b t) (e:t∉[193,188]):b∉[i.bb,i.c2,i.m1,i.m2,i.m3]:=by
 intro a;have c:=hb.notin (dy.cons h.book.ty (dy.one h.bclock.ty)) e;have d:=eF h.maps (dy.one hb);simp only[List.mem_cons,List.not_mem_nil,or_false]at a c
 rcases a with a|a|a|a|a
 ·exact c (.inl a)
 ·exact c (.inr a)
 ·exact d i.m1 (.inl rfl) (by simp[a])
 ·exact d i.m2 (.inr (.inl rfl)) (by simp[a])
 ·exact d i.m3 (.inr (.inr rfl)) (by simp[a])
theorem am.booked {w c:World} {i:ar} {v:ak} {ep now:Int} {n:Nat} {U L G:DataW Unit} (h:am w i v) (t:ai [i.bb,i.c2,i.m1,i.m2,i.m3] w c) (hb:ac c i.bb (aX i.c2 v.first ep i.m1 i.m2 i.m3) 193) (hc:ac c i.c2 [.bool true, .int .i64 now] 188) (b:bc c i.m1 i.m2 i.m3 n U L G):aK w c i v i {v with epoch:=ep,now:=now,n:=n,U:=U,L:=L,G:=G}:=by
 have e:i.cb∉[i.bb,i.c2,i.m1,i.m2,i.m3]:=by
  intro a;have d:=eF h.maps (dy.one h.clock.ty);simp only[List.mem_cons,List.not_mem_nil,or_false]at a
  rcases a with a|a|a|a|a
  ·exact absurd (show 188=193 from(a ▸ h.clock.ty).eq h.book.ty) (by decide)
  ·exact h.two a.symm
  ·exact d i.m1 (.inl rfl) (by simp[a])
  ·exact d i.m2 (.inr (.inl rfl)) (by simp[a])
  ·exact d i.m3 (.inr (.inr rfl)) (by simp[a])
 refine⟨⟨t.blk h.vol (h.offBook h.vol.ty (by decide)),t.blk h.jour (h.offBook h.jour.ty (by decide)),t.blk h.space (h.offBook h.space.ty (by decide)),h.disk.turned t (fun x a=> ?_),t.blk h.index (h.offBook h.index.ty (by decide)),aJ h.vers t (fun k f=>h.offBook (ch h.vers f) (by decide)),aJ h.sealed t (fun k f=>h.offBook (ch h.sealed f) (by decide)),hb,hc,t.blk h.clock e,b,h.two,h.rp⟩,t.mono (fun x a=> ?_),fun x a=> .inl a⟩
 ·obtain⟨l,g,j⟩:=h.disk.tyIn x a
  exact h.offBook j (fun b=>by simp at g b;rcases g with rfl|rfl|rfl<;>rcases b with b|b<;>exact absurd b (by decide))
 ·simp only[List.mem_cons,List.not_mem_nil,or_false]at a
  rcases a with rfl|rfl|rfl|rfl|rfl<;>simp[ar.foot]
def aS (v:ak) (r:Rec):Rec:={r with epoch:=v.epoch,time:=v.clock}
structure jH (v:ak) (b:ax):Prop where
 ok:bC v
 key:v.key.size=32
 e0:0≤v.epoch
 e1:v.epoch≤4294967295
 sealed:v.sealed.length≤1048575
 tame:jE v.sealed
 last:(cC v.sealed).size=32
 c0:v.last.clock≤v.clock
 gen:v.last.gen≠1152921504606846976
 t1:v.clock≤1099511627776
 maps:bK v.U v.L v.G b
 n:v.n≤65536
theorem jH.fitsE {v:ak} {b:ax} (h:jH v b):Fits v.epoch:=by have:=h.e0;have:=h.e1;unfold Fits;omega
def nU (v:ak) (cv:Value) (bl:ByteArray):ak:={v with used:=v.used+1,d:={v.d with cv:=cv,cs:=v.d.cs++[(4+v.used,bl)]}}
def Ah (v:ak) (t:Int) (q:ByteArray):ak:={v with last:=eW v t,d:=oI v t q}
def cX (v:ak) (r:Rec) (cv:Value) (t bl q:ByteArray) (n:Nat) (U L G:DataW Unit):ak:=
 {Ah (nU v cv bl) v.clock q with now:=v.clock,n:=n,U:=U,L:=L,G:=G,sealed:=v.sealed++[⟨aS v r,t⟩]}
def KV (w:World) (i:ar) (v:ak) (b:ax) (r:Rec) (e:Ending) (w':World):Prop:=
 ∃(cv:Value) (t bl q:ByteArray) (n:Nat) (U L G:DataW Unit) (sv:Value),aj t (iL v.key.data.toList (cC v.sealed).data.toList (v.sealed.length:Int) (aS v r))∧aj bl (holdL (cI (aS v r)++t.data.toList))∧aj q (eC (eW (nU v cv bl) v.clock))∧
  bK U L G (b.app (aS v r))∧n≤v.n+1∧e= .returned (.int .i64 0)∧aK w w' i v {i with sv:=sv} (cX v r cv t bl q n U L G)
def cH (w:World) (i:ar) (v:ak) (b:ax) (r:Rec) (e:Ending) (w':World):Prop:=
 if eB v.first v.epoch v.now b (aS v r)=0 then(if cj v.last.geo v.used=0 then e= .returned (.int .i64 5)∧Below w.heap.size w w' else KV w i v b r e w')
 else e= .returned (.int .i64 (eB v.first v.epoch v.now b (aS v r)))∧Below w.heap.size w w'
theorem bC.put {v:ak} (a:bC v) (hu:v.used<v.last.geo.blocks-5) (c:Value) (b:ByteArray):bC (nU v c b):=
 ⟨a.sup,by show 0≤v.used+1;have:=a.u0;omega,by show v.used+1≤v.last.geo.blocks-4;omega,by
  have d:=a.calm.put (i:=4+v.used) (by have:=a.u0;omega) (by have:=a.u0;omega) c b;exact d.mono (by show v.used.toNat+1≤(v.used+1).toNat;have:=a.u0;omega)⟩
theorem lU (i:ar) (v:ak) (b:ax) (r:Rec) (w:World) (h:am w i v) (ew:i.rv= .pointer none) (hs:jH v b) (hk:r.kind≠1) (et:r.name.size≤1073741824) (ex:fL):
  Calls prog 107 #[.pointer (some ⟨i.vb,0,none⟩),r.v] w fun e w'=>cH w i v b r e w':=by
 have H0:=hid h;have B:=hid hs;have fw:=hid ew;have HK:=hid hk;have fv:=hid (show(aS v r).name.size≤1073741824 from et);have eb:=hid ex;have fr:=hid (show r.cells[1]?=some (.int .i64 r.epoch)from rfl);have fs:=hid (show(r.cells.set 1 (.int .i64 v.epoch))[2]?=some (.int .i64 r.time)from rfl);clear h hs ew hk et ex;go_enter func107,ntmps107
 go_upto_region 1 with(first
  |((with_reducible refine ae 59 (.tmp 1) r.cells (some 3) ?hgd ?ho ?hd ?hx ?_);(case hgd|ho|hd|hx=>rfl);(intro b3 w1 l1 B1 e1 z1))
  |fail)
 have ca:=hid B1;have c3:=hid l1;have a3:=hid (e1.mono l1);have cu:=hid ((aK.refl H0.out).below a3.out);clear B1 e1 z1 l1;refine hb (fun g=>g.cell? ⟨i.vb,5,none⟩=some (.pointer (some ⟨i.bb,0,none⟩))∧g.cell? ⟨i.vb,6,none⟩=some (.pointer (some ⟨i.cb,0,none⟩))) (⟨cu.at'.vol.drew.cell (i:=5) rfl,cu.at'.vol.drew.cell (i:=6) rfl⟩) fun c=> ?_
 obtain⟨wd,F⟩:∃g,g=w1.drew:=⟨_,rfl⟩;have bw:Below w1.heap.size w1 wd:=by rw[F];exact(Below.refl _ _).drew
 have an:=hid (ca.below bw ca.lt);have ck:=hid (a3.trans (bw.mono a3.size));have m:=hid ((aK.refl H0.out).below ck.out);rw[←F];rw[←F]at c;clear F bw;refine hp 0 ?_;refine hp 1 ?_;refine hp 2 ?_;refine hp 3 ?_;refine hp 5 ?_;refine hp 6 ?_;refine hp 7 ?_;refine hp 8 ?_;refine hc 4 fun K d=> ?_
 go_simp
 refine(bg i.bb i.c2 v.first v.epoch i.m1 i.m2 i.m3 _ m.at'.book).mono ?_
 rintro e w' ⟨rfl,rfl⟩
 (try go_wp2_with fail)
 refine d.out _ _ (⟨m.at'.vol.cell (i:=5) rfl,m.at'.vol.cell (i:=6) rfl⟩) fun _=> ?_
 clear d K c;rename_i c
 (try go_frame)
 refine hp 10 ?_;refine hc 9 fun K d=> ?_
 go_simp
 refine(ek i.cb v.clock _ m.at'.clock).mono ?_
 rintro e w' ⟨rfl,rfl⟩
 (try go_wp2_with fail)
 refine d.out _ _ (⟨m.at'.vol.cell (i:=5) rfl,m.at'.vol.cell (i:=6) rfl⟩) fun _=> ?_
 clear d K c;rename_i c
 (try go_frame)
 refine hc 11 fun K d=> ?_
 have c1:=an.cell (i:=1) fr.out;have f1:=an.free 1;go_simp;obtain⟨we,b1⟩:∃g,g=wd.setCell ⟨b3,1,none⟩ (.int .i64 v.epoch):=⟨_,rfl⟩;have aq:=hid (show ac we b3 (r.cells.set 1 (.int .i64 v.epoch)) 59 from by rw[b1];exact an.set 1 _);have cl:=hid (show Below w.heap.size w we from by rw[b1];exact ck.setCell (p:=⟨b3,1,none⟩) c3.out _);have cw:=hid ((aK.refl H0.out).below cl.out);rw[←b1];clear b1 c1 f1;refine d.out _ _ (⟨cw.at'.vol.cell (i:=5) rfl,cw.at'.vol.cell (i:=6) rfl⟩) fun _=> ?_
 clear d K c;rename_i c
 (try go_frame)
 refine hp 12 ?_;refine hc 13 fun K d=> ?_
 have c2:=aq.cell (i:=2) fs.out;have f2:=aq.free 2;go_simp;obtain⟨wf,b2⟩:∃g,g=we.setCell ⟨b3,2,none⟩ (.int .i64 v.clock):=⟨_,rfl⟩;have S:=hid (show ac wf b3 ((r.cells.set 1 (.int .i64 v.epoch)).set 2 (.int .i64 v.clock)) 59 from by rw[b2];exact aq.set 2 _);have a4:=hid (show Below w.heap.size w wf from by rw[b2];exact cl.setCell (p:=⟨b3,2,none⟩) c3.out _);have bi:=hid ((aK.refl H0.out).below a4.out);rw[←b2];clear b2 c2 f2;refine d.out _ _ (⟨bi.at'.vol.cell (i:=5) rfl,bi.at'.vol.cell (i:=6) rfl⟩) fun _=> ?_
 clear d K c;rename_i c
 (try go_frame)
 refine hd ?_;clear c;have d4:=hid (show ac wf b3 (aS v r).cells 59 from S.ext rfl);go_upto_region 2 with fail;refine hb (fun g=>g.rangeAt b3 0 (aS v r).cells∧g.cell? ⟨i.vb,5,none⟩=some (.pointer (some ⟨i.bb,0,none⟩))) (⟨d4.drew.range,bi.at'.vol.drew.cell (i:=5) rfl⟩) fun c=> ?_
 have S:=d4;obtain⟨wg,b4⟩:∃g,g=wf.drew:=⟨_,rfl⟩;have bx:Below wf.heap.size wf wg:=by rw[b4];exact(Below.refl _ _).drew
 have cc:=hid (S.below bx S.lt);have a5:=hid (a4.trans (bx.mono a4.size));have bk:=hid ((aK.refl H0.out).below a5.out);rw[←b4];rw[←b4]at c;clear b4 bx;refine hp 0 ?_;refine hp 1 ?_;refine hp 2 ?_;refine hp 3 ?_;refine hl 4 59 b3 0 ((aS v r).cells) (fun w h=>h.1) underlying59 cF ?_;refine hc 5 fun K d=> ?_
 go_simp
 refine(xE i.bb i.c2 i.m1 i.m2 i.m3 v.n v.first v.epoch v.now v.U v.L v.G b (aS v r) _ bk.at'.book bk.at'.maps B.maps bk.at'.bclock fv.out B.fitsE B.n eb.out).mono ?_
 rintro e wh ⟨rfl,dg⟩;have aA:=hid (cc.below dg cc.lt);have T:=hid (a5.trans (dg.mono a5.size));have bm:=hid ((aK.refl H0.out).below T.out);clear dg
 (try go_wp2_with fail)
 refine d.out _ _ (⟨aA.range,bm.at'.vol.cell (i:=5) rfl⟩) fun _=> ?_
 clear d K c;rename_i c
 (try go_frame)
 refine hp 6 ?_;refine hd ?_;clear c;obtain⟨my,Q⟩:∃my,eB v.first v.epoch v.now b (aS v r)=my:=⟨_,rfl⟩;rw[Q];have a7:=hid Q
 by_cases er:my=0
 case neg=>
  have fn:=hid er;clear Q;go_wp2_with fail;go_ret;unfold cH;rw[if_neg (by rw[a7.out];exact fn.out),a7.out];exact⟨rfl,T.out⟩
 subst er
 have W:=hid (show aL (aS v r)=true from by
  cases hq:aL (aS v r)with
  |true=>rfl
  |false=>
   unfold eB at Q;rw[if_pos hq]at Q
   cases Q)
 have d6:=hid (dH W.out);clear Q;have c0:=bm.at'.vol.cell (i:=0) rfl;go_wp2_with fail
 refine(jO i v _ bm.at' B.ok).mono ?_
 rintro e wi ⟨rfl,Z⟩;have a0:=hid (aA.below Z aA.lt);have V:=hid (T.trans (Z.mono T.size));have ee:=hid ((aK.refl H0.out).below V.out);obtain⟨rm,dT⟩:∃rm,cj v.last.geo v.used=rm:=⟨_,rfl⟩;rw[dT];have c8:=hid dT;clear Z c0 dT
 by_cases es:rm=0
 case pos=>
  subst es;go_wp2_with fail;go_ret;unfold cH;rw[if_pos a7.out,if_pos c8.out];exact⟨rfl,V.out⟩
 have fo:=hid es
 have ea:=hid (show v.used<v.last.geo.blocks-5 from by
  have h1:=c8.out;unfold cj at h1
  omega)
 go_wp2_with (first
  |((with_reducible refine al 59 (.tmp 3) b3 ((aS v r).cells) 59 _ a0.out underlying59 rfl cF ?hgd ?ho ?hx ?_);(case hgd|ho|hx=>rfl))
  |fail)
 refine(xA i v (aS v r) _ ee.at' fw.out B.key ⟨B.last,by omega,by have:=B.sealed;omega,W.out⟩ (by have:=d6.out;omega) (by have:=d6.out;omega) B.fitsE (by have:=B.sealed;omega)).mono ?_
 rintro e wj ⟨⟨t,bl,rfl,tt,tb⟩,ds⟩;have fI:=hid tt;have ec:=hid tb;have ce:=hid (a0.below ds a0.lt);have a6:=hid (V.trans (ds.mono V.size));have ef:=hid ((aK.refl H0.out).below a6.out)
 have fd:=hid (show bl.size=4096 from by
  have h1:=eR W.out;have h2:t.data.toList.length=32:=by rw[show t.data.toList= _ from tt,dt]
  rw[ec.size];exact mA _ (by rw[List.length_append];omega))
 clear tt tb ds
 go_upto_region 8 with(first
  |((with_reducible refine ab 61 _ pB (some 6) ?hgd ?ho ?hd ?_);(case hgd|ho|hd=>rfl);(intro b6 w6 l6 B6 e6 z6))
  |((with_reducible refine aa 61 (.tmp 6) (.tmp 42) b6 (ay.cells ⟨Rec.zero,⟨#[]⟩⟩) (ay.cells ⟨aS v r,t⟩) 61 B6 rfl iN (jG _) ?hgd ?ho ?hx ?hy ?_);(case hgd|ho|hx|hy=>rfl);(intro wk Bk ok))
  |fail)
 have dv:Below wj.heap.size wj wk:=ok.below (e6.mono l6) l6;have bo:=hid Bk;have a1:=hid (ce.below dv ce.lt);have cm:=hid (a6.trans (dv.mono a6.size));have a9:=hid (ef.at'.fresh l6);have c5:=hid (H0.fresh c3.out);have cx:=hid (aK.refl (H0.below cm.out));clear B6 Bk e6 z6 ok l6 dv;have c0:=cx.at'.vol.cell (i:=0) rfl;go_wp2_with fail
 refine(mq i v bl _ cx.at' B.ok fd.out ea.out).mono ?_
 rintro e wm ⟨rfl,cv,R⟩;have M:=hid (show aK wk wm i v i (nU v cv bl)from R);have cf:=hid (M.turned.blk a1.out c5.out);have cy:=hid (M.turned.blk bo.out a9.out);clear R c0;go_upto_region 11 with fail;refine hb (fun g=>g.cell? ⟨i.vb,0,none⟩=some (.pointer (some ⟨i.jb,0,none⟩))∧g.cell? ⟨i.vb,6,none⟩=some (.pointer (some ⟨i.cb,0,none⟩))) (⟨M.at'.vol.drew.cell (i:=0) rfl,M.at'.vol.drew.cell (i:=6) rfl⟩) fun c=> ?_
 obtain⟨wn,b5⟩:∃g,g=wm.drew:=⟨_,rfl⟩;have X:Below wm.heap.size wm wn:=by rw[b5];exact(Below.refl _ _).drew
 have gn:=hid (cf.below X cf.lt);have gr:=hid (cy.below X cy.lt);have N:=hid (M.below X);rw[←b5];rw[←b5]at c;clear b5 X;refine hp 0 ?_;refine hp 1 ?_;refine hp 2 ?_;refine hp 3 ?_;refine hp 4 ?_;refine hp 5 ?_;refine hp 6 ?_;refine hp 7 ?_;refine hc 8 fun K d=> ?_
 go_simp
 refine(ek i.cb v.clock _ N.at'.clock).mono ?_
 rintro e w' ⟨rfl,rfl⟩
 (try go_wp2_with fail)
 refine d.out _ _ (⟨N.at'.vol.cell (i:=0) rfl,N.at'.vol.cell (i:=6) rfl⟩) fun _=> ?_
 clear d K c;rename_i c
 (try go_frame)
 refine hc 9 fun K d=> ?_
 go_simp
 refine(xB i (nU v cv bl) v.clock _ N.at' (B.ok.put ea.out cv bl) B.c0 B.t1 B.gen).mono ?_
 rintro e wo ⟨rfl,q,tq,R⟩;have fz:=hid tq;have C:=hid (show aK wk wo i v i (Ah (nU v cv bl) v.clock q)from N.trans R);have a2:=hid (C.turned.blk a1.out c5.out);have cz:=hid (C.turned.blk bo.out a9.out);clear tq R
 (try go_wp2_with fail)
 refine d.out _ _ (⟨C.at'.vol.cell (i:=0) rfl,C.at'.vol.cell (i:=6) rfl⟩) fun _=> ?_
 clear d K c;rename_i c
 (try go_frame)
 refine hp 10 ?_;refine hd ?_;clear c;go_upto_region 14 with fail;refine hb (fun g=>g.rangeAt b3 0 (aS v r).cells∧g.cell? ⟨i.vb,5,none⟩=some (.pointer (some ⟨i.bb,0,none⟩))) (⟨a2.drew.range,C.at'.vol.drew.cell (i:=5) rfl⟩) fun c=> ?_
 obtain⟨wp,b7⟩:∃g,g=wo.drew:=⟨_,rfl⟩;have Y:Below wo.heap.size wo wp:=by rw[b7];exact(Below.refl _ _).drew
 have go:=hid (a2.below Y a2.lt);have gs:=hid (cz.below Y cz.lt);have D:=hid (C.below Y);rw[←b7];rw[←b7]at c;clear b7 Y;refine hp 0 ?_;refine hp 1 ?_;refine hp 2 ?_;refine hp 3 ?_;refine hl 4 59 b3 0 ((aS v r).cells) (fun w h=>h.1) underlying59 cF ?_;refine hc 5 fun K d=> ?_
 go_simp
 refine(C6 i.bb i.c2 i.m1 i.m2 i.m3 v.n v.first v.epoch v.now v.U v.L v.G b (aS v r) _ D.at'.book D.at'.maps B.maps D.at'.bclock W.out B.n eb.out a7.out (D5 D.at')).mono ?_
 rintro e wq ⟨⟨rfl,n',U',L',G',dc,el,em,Z,en⟩,ey⟩;rw[if_neg (show¬(aS v r).kind=1 from HK.out)]at dc;have e9:=hid Z;have fb:=hid en;have o:=hid (D.trans (D.at'.booked (ep:=v.epoch) (now:=v.clock) ey dc el em));have d5:=hid (o.turned.blk a1.out c5.out);have bs:=hid (o.turned.blk bo.out a9.out);clear dc el em Z en ey
 (try go_wp2_with fail)
 refine d.out _ _ (⟨d5.range,o.at'.vol.cell (i:=5) rfl⟩) fun _=> ?_
 clear d K c;rename_i c
 (try go_frame)
 refine hd ?_;clear c;go_upto_region 15 with fail;have d8:=hid (show i.sv.ownBlock≠some b6 from fun e=>a9.out (by simp only[ar.foot,List.mem_append,Option.mem_toList,Option.mem_def];exact .inr (.inr (.inr e))));have d7:=hid (show b6≠i.vb from fun e=>a9.out (by rw[e];simp[ar.foot]));have co:=hid o.at'.vol;have d9:=hid o.at'.sealed
 have cg:=hid (fun(g:World) (sv:Value) (ht:ai (i.vb::i.sv.ownBlock.toList) wq g) (hv:ac g i.vb (sS {i with sv:=sv} v.key v.data) 104) (ho:g.ownsRow 0 61 9 sv (v.sealed.length+1) (eJ v.sealed++(ay.cells ⟨aS v r,t⟩))) (hn:eI wq i.sv.ownBlock sv.ownBlock)=>show cH w i v b r (.returned (.int .i64 0)) g from by
  unfold cH;rw[if_pos a7.out,if_neg (by rw[c8.out];exact fo.out)];have R:=o.at'.own (key:=v.key) (sv:=sv) (l:=v.sealed++[⟨aS v r,t⟩]) ht hv (by rw[pg,List.length_append];exact ho) (fun k hk=>hn.elim (fun h9=> .inl (by rw[←h9];exact hk)) (fun h9=> .inr (h9 k hk)));exact⟨cv,t,bl,q,n',U',L',G',sv,fI.out,ec.out,fz.out,e9.out,fb.out,rfl,aK.ahead cm.out (o.trans R)⟩)
 refine hb (fun g=>g.rangeAt b6 0 (ay.cells ⟨aS v r,t⟩)) (bs.drew.range) fun c=> ?_
 obtain⟨wd,F⟩:∃wd,wd=wq.drew:=⟨_,rfl⟩;have bv:Below wq.heap.size wq wd:=by rw[F];exact(Below.refl _ _).drew
 have o:=hid (ai.refl (i.vb::(i.sv).ownBlock.toList) wq);have P:=hid (bs.below bv bs.lt);have H:=hid (co.below bv co.lt);have cs:=hid (own_below bv d9.out);have m:=hid (o.trans (ai.of_below bv (Nat.le_refl _)));rw[←F];rw[←F]at c;clear F bv;obtain⟨i0,hi,eD,eN,e0⟩:=info_parts kq;refine hp 0 ?_;refine hp 1 ?_;refine hp 2 ?_;refine hp 3 ?_;refine hl 5 61 b6 0 ((ay.cells ⟨aS v r,t⟩)) (fun w h=>h) underlying61 iN ?_;refine hc2 4 6 (fun K d=> ?_) (fun K d=> ?_)
 ·have c4:wd.cell? ⟨i.vb,4,none⟩=some (i.sv):=H.cell (i:=4) rfl
  go_simp;clear c4
  (try go_wp2_with fail)
  refine d.out _ _ (P.range) fun _=> ?_
  clear d K c;rename_i c
  (try go_frame)
  refine hc 6 fun K d=> ?_
  refine jt 54 61 1 _ (ay.cells ⟨aS v r,t⟩) (.agg (ay.cells ⟨Rec.zero,⟨#[]⟩⟩).toArray) 9 96 underlying54 kq (by omega) (by omega) rfl (by kernel_rfl) ?_;intro g8 w8 l8 B8 e8 z8;have x:Below wd.heap.size wd w8:=e8.mono l8;have cW:=hid B8;have E:=hid (P.below x P.lt);have A:=hid (H.below x H.lt);have I:=hid (own_below x cs.out);have J:=hid (m.trans (ai.of_below x (Nat.le_refl _)));clear B8 e8 z8 x l8
  (try go_wp2_with fail)
  refine d.out _ _ (E.range) fun _=> ?_
  clear d K c;rename_i c
  (try go_frame)
  refine hc 7 fun K d=> ?_
  refine dU _ _ 54 rfl i0 (.agg (ay.cells ⟨Rec.zero,⟨#[]⟩⟩).toArray) 96 underlying54 hi eD eN e0 rfl (by decide) rfl I.out ⟨g8,0,none⟩ 1 1 (ay.cells ⟨aS v r,t⟩) rfl rfl (bJ cW.out) (jG _) (by have:=B.sealed;show v.sealed.length+1≤maxLen;unfold maxLen;omega) (by have:=B.sealed;show(v.sealed.length+1)*96≤140737488355328;omega) (Nat.zero_le _) ?_;intro v' w9 z s u;have f:w8.grownBy w9 (i.sv).ownBlock:=s;have y:eI w8 (i.sv).ownBlock v'.ownBlock:=u;clear s u;obtain⟨p9,q9,d0⟩:=aD z;subst d0;have O:=hid (E.grown f (fun e=>d8.out e.symm));have j:=hid (A.grown f (fun e=>absurd (show 61=104 from(ch I.out e.symm).eq A.ty) (by decide)));have bd:=hid z;have c6:=hid (y.back J.size);have be:=hid (J.trans (ai.of_grown f (fun k hk=>by simp[hk])));clear z f y
  (try go_wp2_with fail)
  refine d.out _ _ (O.range) fun _=> ?_
  clear d K c;rename_i c
  (try go_frame)
  refine hp 8 ?_;refine hp 9 ?_;have c4:=j.cell (i:=4) rfl;have f4:=j.free 4;refine hc 10 fun K d=> ?_
  go_simp;have bt:=hid (O.set_other (a:=⟨i.vb,4,none⟩) (fun e=>d7.out e) (.slice p9 (v.sealed.length+1) q9));have a8:=hid (j.set 4 (.slice p9 (v.sealed.length+1) q9));have bn:=hid (be.setCell (b:=i.vb) (.inl (by simp)) 4 (.slice p9 (v.sealed.length+1) q9));have c7:=hid (aJ bd.out ((ai.refl [i.vb] w9).setCell (b:=i.vb) (.inl (by simp)) 4 (.slice p9 (v.sealed.length+1) q9)) (fun k hk=>(ch bd.out hk).notin (dy.one j.ty) (by decide)));clear c4 f4
  (try go_wp2_with fail)
  refine d.out _ _ (bt.range) fun _=> ?_
  clear d K c;rename_i c
  (try go_frame)
  refine hd ?_;clear c
  (try go_wp2_with fail)
  go_ret;exact cg.out _ _ bn.out (a8.ext rfl) c7.out c6.out
 ·refine jt 54 61 1 _ (ay.cells ⟨aS v r,t⟩) (.agg (ay.cells ⟨Rec.zero,⟨#[]⟩⟩).toArray) 9 96 underlying54 kq (by omega) (by omega) rfl (by kernel_rfl) ?_
  intro g8 w8 l8 B8 e8 z8;have x:Below wd.heap.size wd w8:=e8.mono l8;have cW:=hid B8;have E:=hid (P.below x P.lt);have A:=hid (H.below x H.lt);have I:=hid (own_below x cs.out);have J:=hid (m.trans (ai.of_below x (Nat.le_refl _)));clear B8 e8 z8 x l8
  (try go_wp2_with fail)
  refine d.out _ _ (E.range) fun _=> ?_
  clear d K c;rename_i c
  (try go_frame)
  refine hc 4 fun K d=> ?_
  have c4:w8.cell? ⟨i.vb,4,none⟩=some (i.sv):=A.cell (i:=4) rfl;go_simp;clear c4
  (try go_wp2_with fail)
  refine d.out _ _ (E.range) fun _=> ?_
  clear d K c;rename_i c
  (try go_frame)
  refine hc 7 fun K d=> ?_
  refine dU _ _ 54 rfl i0 (.agg (ay.cells ⟨Rec.zero,⟨#[]⟩⟩).toArray) 96 underlying54 hi eD eN e0 rfl (by decide) rfl I.out ⟨g8,0,none⟩ 1 1 (ay.cells ⟨aS v r,t⟩) rfl rfl (bJ cW.out) (jG _) (by have:=B.sealed;show v.sealed.length+1≤maxLen;unfold maxLen;omega) (by have:=B.sealed;show(v.sealed.length+1)*96≤140737488355328;omega) (Nat.zero_le _) ?_;intro v' w9 z s u;have f:w8.grownBy w9 (i.sv).ownBlock:=s;have y:eI w8 (i.sv).ownBlock v'.ownBlock:=u;clear s u;obtain⟨p9,q9,d0⟩:=aD z;subst d0;have O:=hid (E.grown f (fun e=>d8.out e.symm));have j:=hid (A.grown f (fun e=>absurd (show 61=104 from(ch I.out e.symm).eq A.ty) (by decide)));have bd:=hid z;have c6:=hid (y.back J.size);have be:=hid (J.trans (ai.of_grown f (fun k hk=>by simp[hk])));clear z f y
  (try go_wp2_with fail)
  refine d.out _ _ (O.range) fun _=> ?_
  clear d K c;rename_i c
  (try go_frame)
  refine hp 8 ?_;refine hp 9 ?_;have c4:=j.cell (i:=4) rfl;have f4:=j.free 4;refine hc 10 fun K d=> ?_
  go_simp;have bt:=hid (O.set_other (a:=⟨i.vb,4,none⟩) (fun e=>d7.out e) (.slice p9 (v.sealed.length+1) q9));have a8:=hid (j.set 4 (.slice p9 (v.sealed.length+1) q9));have bn:=hid (be.setCell (b:=i.vb) (.inl (by simp)) 4 (.slice p9 (v.sealed.length+1) q9));have c7:=hid (aJ bd.out ((ai.refl [i.vb] w9).setCell (b:=i.vb) (.inl (by simp)) 4 (.slice p9 (v.sealed.length+1) q9)) (fun k hk=>(ch bd.out hk).notin (dy.one j.ty) (by decide)));clear c4 f4
  (try go_wp2_with fail)
  refine d.out _ _ (bt.range) fun _=> ?_
  clear d K c;rename_i c
  (try go_frame)
  refine hd ?_;clear c
  (try go_wp2_with fail)
  go_ret;exact cg.out _ _ bn.out (a8.ext rfl) c7.out c6.out
structure Sz (n:Nat):Prop where
 le:n≤9223372036854775807
theorem si {s:ByteArray} (h:bV s.data.toList=true):s.size≤1073741824:=by
 unfold bV at h;simp only[Bool.and_eq_true,decide_eq_true_eq]at h
 have:s.data.toList.length=s.size:=rfl
 omega
theorem uH (s:ByteArray) (w:World) (t:Sz s.size):
  Calls prog 108 #[.string s] w fun e w'=>e= .returned (.bool (bV s.data.toList))∧w=w':=by
 have hl:s.data.toList.length=s.size:=rfl;have h:=hid hl;clear hl
 have p:∀k:Nat,k<s.size→IntKind.i64.wrap ((k:Int)+1)=(k:Int)+1:=fun k x=>by
  have:=t.le
  rw[IntKind.wrap_i64];omega
 have j:=hid p;clear t p
 by_cases q:s.size=0
 ·have u:=emptyText (s:=s) (by omega)
  have o:=hid q;clear q;go_enter func108,ntmps108;go_wp2_with fail;go_loop [6] (fun i=>i= .int .i64 0) (fun _=>0)
  case atStart=>rfl
  case round=>
   subst hrel;have y:(s.size:Int)≤0:=by have:=o.out;omega
   go_wp2_with fail;go_ret;exact⟨dV (by unfold bV;rw[h.out,o.out];rfl),rfl⟩
 have u:=kF (s:=s) (by omega);go_enter func108,ntmps108;go_wp2_with fail;go_loop [6] (fun i=>∃k:Nat,k≤s.size∧i= .int .i64 k∧(s.data.toList.take k).all dQ=true) (fun i=>s.size-(intOf i).toNat)
 case atStart=>exact⟨0,by omega,rfl,rfl⟩
 case round=>
  obtain⟨k,x,rfl,a⟩:=hrel;have m:=hid a;clear a
  by_cases d:k<s.size
  ·have r:(k:Int)<s.size:=by omega
   obtain⟨c,hc⟩:∃c,s[k]=c:=⟨_,rfl⟩;have b:s.data.toList[k]?=some c:=by rw[List.getElem?_eq_getElem (by rw[h.out];exact d),←hc];rfl
   have n:=hid b;clear b;have v:=c.toNat_lt;have f:=j.out k d;have g:wrap64 ((k:Int)+1)=(k:Int)+1:=(IntWalk.i64_left _).symm.trans f;go_wp2_with fail
   all_goals try(
    go_round
    case rel=>
     refine⟨k+1,by omega,by first|rfl|(rw[f];rfl)|(rw[g];rfl)|go_num, ?_⟩;rw[BB _ _ _ n.out,m.out];simp only[Bool.true_and]
     cases hb:dQ c with
     |true=>rfl
     |false=>rw[nD]at hb;exfalso;simp_all;omega
    case measure=>simp[intOf];omega)
   all_goals
    go_ret;refine⟨dV ?_,rfl⟩;have l:dQ c=false:=by rw[nD];simp_all;omega
    unfold bV;rw[IP n.out l];simp
  ·obtain rfl:k=s.size:=by omega
   go_wp2_with fail
   all_goals go_ret
   all_goals refine⟨dV ?_,rfl⟩
   all_goals
    have a:=m.out;rw[List.take_of_length_le (by rw[h.out];omega)]at a;unfold bV;rw[a,h.out];rw[show decide ((s.size:Int)≤16)=decide (s.size≤16)from decide_eq_decide.2 (by omega),decide_eq_true (show 1≤s.size by omega)];simp
def dp (v:ak) (ep:Int):Int:=if ep<v.last.geo.first∨v.epoch<ep then 7 else if ep=v.epoch then 8 else 0
theorem ip (i:ar) (v:ak) (ep:Int) (w:World) (h:am w i v):
  Calls prog 57 #[.pointer (some ⟨i.vb,0,none⟩), .int .i64 ep] w fun e w'=>e= .returned (.int .i64 (dp v ep))∧Below w.heap.size w w':=by
 have A:∀(a b c:Int) (w:World),Sem.run prog (Instr.field 23 (.agg #[.int .i64 a, .int .i64 b, .int .i64 c]) 2) w= .ok (.int .i64 c) w:=fun _ _ _ _=>by kernel_rfl
 have p:=hid (fun(m:World) (u:am m i v)=>lu i v m u);unfold dp;obtain⟨⟨blocks,q,first⟩,hl⟩:∃s,v.last.geo=s:=⟨_,rfl⟩;rw[hl]
 have l:=hid (fun(m:World) (u:am m i v)=>show Calls prog 49 #[.pointer (some ⟨i.vb,0,none⟩)] m fun e w'=>e= .returned (.agg #[.int .i64 blocks, .int .i64 q, .int .i64 first])∧Below m.heap.size m w' from by
  have:=p.out m u
  rw[hl]at this;exact this)
 obtain⟨ve,n⟩:∃ve,v.epoch=ve:=⟨_,rfl⟩;rw[n];have k:=hid n;have g:=hid h;clear p hl n h;simp only
 by_cases y:ep<first
 ·rw[if_pos (.inl y)]
  go_enter func57,ntmps57;go_wp2_with fail
  refine(aQ i v _ g.out).mono ?_
  rintro e w' ⟨rfl,rfl⟩;go_wp2_with fail
  refine(l.out _ g.out).mono ?_
  rintro e o ⟨rfl,d⟩;have f:=hid d;have j:=hid (g.below d);have t:o.cell? ⟨i.vb,5,none⟩=some (.pointer (some ⟨i.bb,0,none⟩)):=j.vol.cell (i:=5) rfl;clear d;go_wp2_with fail;go_ret;exact⟨rfl,f.out⟩
 by_cases z:ve<ep
 ·rw[if_pos (.inr z)]
  go_enter func57,ntmps57;go_wp2_with fail
  refine(aQ i v _ g.out).mono ?_
  rintro e w' ⟨rfl,rfl⟩;go_wp2_with fail
  refine(l.out _ g.out).mono ?_
  rintro e o ⟨rfl,d⟩;have f:=hid d;have j:=hid (g.below d);have t:o.cell? ⟨i.vb,5,none⟩=some (.pointer (some ⟨i.bb,0,none⟩)):=j.vol.cell (i:=5) rfl;clear d;go_wp2_with fail
  refine(bg i.bb i.c2 v.first ve i.m1 i.m2 i.m3 _ (by rw[←k.out];exact j.book)).mono ?_
  rintro e w' ⟨rfl,rfl⟩;go_wp2_with fail;go_ret;exact⟨rfl,f.out⟩
 rw[if_neg (by omega)]
 by_cases r:ep=ve
 ·rw[if_pos r]
  have x:=hid r;subst r;go_enter func57,ntmps57;go_wp2_with fail
  refine(aQ i v _ g.out).mono ?_
  rintro e w' ⟨rfl,rfl⟩;go_wp2_with fail
  refine(l.out _ g.out).mono ?_
  rintro e o ⟨rfl,d⟩;have f:=hid d;have j:=hid (g.below d);have t:o.cell? ⟨i.vb,5,none⟩=some (.pointer (some ⟨i.bb,0,none⟩)):=j.vol.cell (i:=5) rfl;clear d;go_wp2_with fail
  refine(bg i.bb i.c2 v.first ep i.m1 i.m2 i.m3 _ (by rw[←k.out];exact j.book)).mono ?_
  rintro e w' ⟨rfl,rfl⟩;go_wp2_with fail
  refine(bg i.bb i.c2 v.first ep i.m1 i.m2 i.m3 _ (by rw[←k.out];exact j.book)).mono ?_
  rintro e w' ⟨rfl,rfl⟩;go_wp2_with fail;go_ret;exact⟨rfl,f.out⟩
 rw[if_neg r];go_enter func57,ntmps57;go_wp2_with fail
 refine(aQ i v _ g.out).mono ?_
 rintro e w' ⟨rfl,rfl⟩;go_wp2_with fail
 refine(l.out _ g.out).mono ?_
 rintro e o ⟨rfl,d⟩;have f:=hid d;have j:=hid (g.below d);have t:o.cell? ⟨i.vb,5,none⟩=some (.pointer (some ⟨i.bb,0,none⟩)):=j.vol.cell (i:=5) rfl;clear d;go_wp2_with fail
 refine(bg i.bb i.c2 v.first ve i.m1 i.m2 i.m3 _ (by rw[←k.out];exact j.book)).mono ?_
 rintro e w' ⟨rfl,rfl⟩;go_wp2_with fail
 refine(bg i.bb i.c2 v.first ve i.m1 i.m2 i.m3 _ (by rw[←k.out];exact j.book)).mono ?_
 rintro e w' ⟨rfl,rfl⟩;go_wp2_with fail;go_ret;exact⟨rfl,f.out⟩
def bT (q:Int) (w w':World) (e:Ending) (P:Prop):Prop:=if q=0 then P else e= .returned (.int .i64 q)∧Below w.heap.size w w'
theorem cH.lead {w0 w w':World} {i:ar} {v:ak} {b:ax} {r:Rec} {e:Ending} (h:cH w i v b r e w') (hb:Below w0.heap.size w0 w):cH w0 i v b r e w':=by
 unfold cH at h ⊢
 by_cases a:eB v.first v.epoch v.now b (aS v r)=0
 ·rw[if_pos a]at h ⊢
  by_cases c:cj v.last.geo v.used=0
  ·rw[if_pos c]at h ⊢
   exact⟨h.1,hb.trans (h.2.mono hb.size)⟩
  ·rw[if_neg c]at h ⊢
   obtain⟨f,t,d,q,n,U,L,G,sv,g,k2,j,k,l,m,o⟩:=h;exact⟨f,t,d,q,n,U,L,G,sv,g,k2,j,k,l,m,o.ahead hb⟩
 ·rw[if_neg a]at h ⊢
  exact⟨h.1,hb.trans (h.2.mono hb.size)⟩
theorem C7 (e u:Int):prog.built 59 [(0, .int .i64 2),(4, .int .i64 e),(5, .int .i64 u)]=some (Rec.cells ⟨2,0,0,0,e,u,⟨#[]⟩,⟨#[]⟩⟩).toArray:=by kernel_rfl
theorem GF (e:Int) (n:ByteArray):prog.built 59 [(0, .int .i64 3),(4, .int .i64 e),(7, .string n)]=some (Rec.cells ⟨3,0,0,0,e,0,⟨#[]⟩,n⟩).toArray:=by kernel_rfl
theorem Ai (n:ByteArray):prog.built 59 [(0, .int .i64 4),(7, .string n)]=some (Rec.cells ⟨4,0,0,0,0,0,⟨#[]⟩,n⟩).toArray:=by kernel_rfl
def nV (v:ak) (ep u:Int):Int:=if dp v ep=0 then(if u<0∨1099511627776<u then 2 else 0)else dp v ep
theorem bT.no {q k:Int} {w a:World} {P:Prop} (c:q=k) (b:k≠0) (hb:Below w.heap.size w a):bT q w a (.returned (.int .i64 k)) P:=by
 unfold bT;subst c;rw[if_neg b];exact⟨rfl,hb⟩
theorem bT.yes {q:Int} {w b:World} {e:Ending} {P:Prop} (a:q=0) (h:P):bT q w b e P:=by
 unfold bT;rw[if_pos a];exact h
theorem cH.ret {w c:World} {i:ar} {v:ak} {b:ax} {r:Rec} {e:Ending} (h:cH w i v b r e c):∃k,e= .returned (.int .i64 k):=by
 unfold cH at h
 split at h
 ·split at h
  ·exact⟨5,h.1⟩
  ·obtain⟨f,t,d,q,n,U,L,G,sv,g,k2,j,l,m,a,o⟩:=h
   exact⟨0,a⟩
 ·exact⟨_,h.1⟩
theorem Aj (i:ar) (v:ak) (b:ax) (ep u:Int) (w:World) (h:am w i v) (l:i.rv= .pointer none) (s:jH v b) (m:fL):
  Calls prog 35 #[.pointer (some ⟨i.vb,0,none⟩), .int .i64 ep, .int .i64 u] w fun e t=>bT (nV v ep u) w t e (cH w i v b ⟨2,0,0,0,ep,u,⟨#[]⟩,⟨#[]⟩⟩ e t):=by
 have j:=hid (ip i v ep w h);have o:=hid (fun(x:World) (E:am x i v)=>lU i v b ⟨2,0,0,0,ep,u,⟨#[]⟩,⟨#[]⟩⟩ x E l s (show¬(2:Int)=1 by decide) (show 0≤1073741824 by decide) m);have y:=hid h;obtain⟨q,p⟩:∃q,dp v ep=q:=⟨_,rfl⟩;rw[p]at j;have r:=hid p;clear h l s m p;go_enter func35,ntmps35;go_wp2_with fail;refine j.mono ?_;rintro e F ⟨rfl,f⟩;have a:=hid f;have z:=hid (y.below f);clear f
 by_cases n:q=0
 ·have c:=hid (show dp v ep=0 by rw[r.out,n])
  subst n
  by_cases C:u<0
  ·have d:=hid (show nV v ep u=2 by unfold nV;rw[if_pos c.out,if_pos (.inl C)])
   go_wp2_with fail;go_ret;exact bT.no d.out (by decide) a.out
  by_cases D:1099511627776<u
  ·have d:=hid (show nV v ep u=2 by unfold nV;rw[if_pos c.out,if_pos (.inr D)])
   go_wp2_with fail;go_ret;exact bT.no d.out (by decide) a.out
  have d:=hid (show nV v ep u=0 by unfold nV;rw[if_pos c.out,if_neg (by omega)]);go_wp2_with (first
  |((with_reducible refine av 59 ?parts23 (Rec.cells ⟨2,0,0,0,ep,u,⟨#[]⟩,⟨#[]⟩⟩) ?hg ?ho ?hf ?_);(case hg|ho=>rfl);(case hf=>exact C7 _ _))
  |fail)
  refine(o.out _ z.out).mono ?_
  intro e G g;have B:=hid (g.lead a.out);obtain⟨k,rfl⟩:=g.ret;clear g;go_wp2_with fail;go_ret;exact bT.yes d.out B.out
 ·have d:=hid (show nV v ep u=q by unfold nV;rw[r.out,if_neg n])
  have A:=hid n;go_wp2_with fail;go_ret;exact bT.no d.out A.out a.out
def rM (v:ak) (ep:Int) (n:ByteArray):Int:=if bV n.data.toList=true then dp v ep else 2
theorem EO (i:ar) (v:ak) (b:ax) (ep:Int) (n:ByteArray) (w:World) (h:am w i v) (j:i.rv= .pointer none) (z:jH v b) (l:fL) (hn:Sz n.size):
  Calls prog 36 #[.pointer (some ⟨i.vb,0,none⟩), .int .i64 ep, .string n] w fun e o=>bT (rM v ep n) w o e (cH w i v b ⟨3,0,0,0,ep,0,⟨#[]⟩,n⟩ e o):=by
 have f:=hid (ip i v ep w h);have r:=hid (fun(F:bV n.data.toList=true) (A:World) (G:am A i v)=>lU i v b ⟨3,0,0,0,ep,0,⟨#[]⟩,n⟩ A G j z (show¬(3:Int)=1 by decide) (si F) l);have u:=hid h;obtain⟨q,t⟩:∃q,dp v ep=q:=⟨_,rfl⟩;rw[t]at f;have E:=hid t;obtain⟨m,s⟩:∃m,bV n.data.toList=m:=⟨_,rfl⟩;have p:=hid s;have g:=hid (uH n w hn);rw[s]at g;clear h j z l t hn s;go_enter func36,ntmps36;go_wp2_with fail
 refine(aQ i v _ u.out).mono ?_
 rintro e o ⟨rfl,rfl⟩;go_wp2_with fail;refine g.mono ?_;rintro e o ⟨rfl,rfl⟩
 cases m with
 |false=>
  go_wp2_with fail;go_ret;exact bT.no (show rM v ep n=2 by unfold rM;rw[p.out];rfl) (by decide) (Below.refl _ _)
 |true=>
 go_wp2_with fail;refine f.mono ?_;rintro e H ⟨rfl,a⟩;have d:=hid a;have B:=hid (u.below a);clear a;have x:=hid (show rM v ep n=q by unfold rM;rw[p.out,E.out];rfl)
 by_cases y:q=0
 ·subst y
  go_wp2_with (first
  |((with_reducible refine av 59 ?parts24 (Rec.cells ⟨3,0,0,0,ep,0,⟨#[]⟩,n⟩) ?hg ?ho ?hf ?_);(case hg|ho=>rfl);(case hf=>exact GF _ _))
  |fail)
  refine(r.out p.out _ B.out).mono ?_
  intro e I c;have D:=hid (c.lead d.out);obtain⟨k,rfl⟩:=c.ret;clear c;go_wp2_with fail;go_ret;exact bT.yes x.out D.out
 ·have C:=hid y
  go_wp2_with fail;go_ret;exact bT.no x.out C.out d.out
def vT (n:ByteArray):Int:=if bV n.data.toList=true then 0 else 2
theorem yM (i:ar) (v:ak) (b:ax) (n:ByteArray) (w:World) (h:am w i v) (d:i.rv= .pointer none) (q:jH v b) (f:fL) (hn:Sz n.size):
  Calls prog 37 #[.pointer (some ⟨i.vb,0,none⟩), .string n] w fun e g=>bT (vT n) w g e (cH w i v b ⟨4,0,0,0,0,0,⟨#[]⟩,n⟩ e g):=by
 have l:=hid (fun(u:bV n.data.toList=true) (r:World) (x:am r i v)=>lU i v b ⟨4,0,0,0,0,0,⟨#[]⟩,n⟩ r x d q (show¬(4:Int)=1 by decide) (si u) f);have p:=hid h;obtain⟨m,o⟩:∃m,bV n.data.toList=m:=⟨_,rfl⟩;have j:=hid o;have c:=hid (uH n w hn);rw[o]at c;clear h d q f hn o;go_enter func37,ntmps37;go_wp2_with fail
 refine(aQ i v _ p.out).mono ?_
 rintro e g ⟨rfl,rfl⟩;go_wp2_with fail;refine c.mono ?_;rintro e g ⟨rfl,rfl⟩
 cases m with
 |false=>
  go_wp2_with fail;go_ret;exact bT.no (show vT n=2 by unfold vT;rw[j.out];rfl) (by decide) (Below.refl _ _)
 |true=>
  have t:=hid (show vT n=0 by unfold vT;rw[j.out];rfl);go_wp2_with (first
  |((with_reducible refine av 59 ?parts15 (Rec.cells ⟨4,0,0,0,0,0,⟨#[]⟩,n⟩) ?hg ?ho ?hf ?_);(case hg|ho=>rfl);(case hf=>exact Ai _))
  |fail)
  refine(l.out j.out _ p.out).mono ?_
  intro e y a;have s:=hid a;obtain⟨k,rfl⟩:=a.ret;clear a;go_wp2_with fail;go_ret;exact bT.yes t.out s.out
theorem EP (i:ar) (v:ak) (w:World) (h:am w i v) (x:bC v) (s:v.last.clock≤v.clock) (t:v.clock≤1099511627776) (u:v.last.gen≠1152921504606846976):
  Calls prog 10 #[.pointer (some ⟨i.vb,0,none⟩)] w fun e r=>e= .returned (.int .i64 0)∧∃q,aj q (eC (eW v v.clock))∧aK w r i v i (Ah v v.clock q):=by
 have k:=hid h;have n:=hid x;have o:=hid (And.intro s (And.intro t u));clear h x s t u;go_enter func10,ntmps10;go_wp2_with fail
 refine(aQ i v _ k.out).mono ?_
 rintro e r ⟨rfl,rfl⟩;go_upto_region 3 with fail;refine hb (fun l=>l.cell? ⟨i.vb,0,none⟩=some (.pointer (some ⟨i.jb,0,none⟩))∧l.cell? ⟨i.vb,6,none⟩=some (.pointer (some ⟨i.cb,0,none⟩))) (⟨k.vol.drew.cell (i:=0) rfl,k.vol.drew.cell (i:=6) rfl⟩) fun a=> ?_
 obtain⟨wd,c⟩:∃l,l=w.drew:=⟨_,rfl⟩;have f:Below w.heap.size w wd:=by rw[c];exact(Below.refl _ _).drew
 have m:=hid f;have b:=hid (k.below f);rw[←c];rw[←c]at a;clear c f;refine hp 0 ?_;refine hp 1 ?_;refine hp 2 ?_;refine hp 3 ?_;refine hp 4 ?_;refine hp 5 ?_;refine hp 6 ?_;refine hp 7 ?_;refine hc 8 fun K g=> ?_
 go_simp
 refine(ek i.cb v.clock _ b.clock).mono ?_
 rintro e r ⟨rfl,rfl⟩
 (try go_wp2_with fail)
 refine g.out _ _ (⟨b.vol.cell (i:=0) rfl,b.vol.cell (i:=6) rfl⟩) fun _=> ?_
 clear g K a;rename_i a
 (try go_frame)
 refine hc 9 fun K g=> ?_
 go_simp
 refine(xB i v v.clock _ b.out n.out o.out.1 o.out.2.1 o.out.2.2).mono ?_
 rintro e z ⟨rfl,q,y,j⟩;have p:=hid y;have d:=hid (show aK wd z i v i (Ah v v.clock q)from j);clear y j
 (try go_wp2_with fail)
 refine g.out _ _ (⟨d.at'.vol.cell (i:=0) rfl,d.at'.vol.cell (i:=6) rfl⟩) fun _=> ?_
 clear g K a;rename_i a
 (try go_frame)
 refine hp 10 ?_;refine hd ?_;clear a;go_wp2_with fail;go_ret;exact⟨rfl,q,p.out,aK.ahead m.out d.out⟩
def fM (now t:Int):Int:=if t<0∨1099511627776<t then 2 else if t<now then 11 else 0
theorem tu (c:Nat) (now t:Int) (w:World) (h:ac w c [.bool true, .int .i64 now] 188) (j:¬fM now t=0):
  Calls prog 112 #[.pointer (some ⟨c,0,none⟩), .int .i64 t] w fun e w'=>e= .returned (.int .i64 (fM now t))∧w=w':=by
 have o:∀(f:Fn) (first b:Array Value) (w:World),(Instr.makeFunc f first b).run prog w= .ok (.func f first b) w:=fun _ _ _ _=>rfl
 have p:=h.cell (i:=1) rfl;have d:=hid h;have l:=hid j;clear h j
 by_cases m:t<0
 ·have a:=hid (show fM now t=2 by unfold fM;rw[if_pos (.inl m)])
  go_enter func112,ntmps112;go_wp2_with fail
  refine(fQ c now _ d.out).mono ?_
  rintro e k ⟨rfl,rfl⟩;go_wp2_with fail;go_ret;exact⟨by rw[a.out];rfl,rfl⟩
 by_cases n:1099511627776<t
 ·have a:=hid (show fM now t=2 by unfold fM;rw[if_pos (.inr n)])
  go_enter func112,ntmps112;go_wp2_with fail
  refine(fQ c now _ d.out).mono ?_
  rintro e k ⟨rfl,rfl⟩;go_wp2_with fail;go_ret;exact⟨by rw[a.out];rfl,rfl⟩
 by_cases g:t<now
 ·have a:=hid (show fM now t=11 by unfold fM;rw[if_neg (by omega),if_pos g])
  go_enter func112,ntmps112;go_wp2_with fail
  refine(fQ c now _ d.out).mono ?_
  rintro e k ⟨rfl,rfl⟩;go_wp2_with fail;go_ret;exact⟨by rw[a.out];rfl,rfl⟩
 exact absurd (show fM now t=0 by unfold fM;rw[if_neg (by omega),if_neg g]) l.out
theorem am.ticked {w e:World} {i:ar} {v:ak} {t:Int} (h:am w i v) (a:ai [i.cb] w e) (hb:ac e i.cb [.bool true, .int .i64 t] 188):aK w e i v i {v with clock:=t}:=by
 have b:=dy.one h.clock.ty;exact⟨⟨a.blk h.vol (h.vol.ty.notin b (by decide)),a.blk h.jour (h.jour.ty.notin b (by decide)),a.blk h.space (h.space.ty.notin b (by decide)),h.disk.turned a (iY h.disk b (by decide)),a.blk h.index (h.index.ty.notin b (by decide)),aJ h.vers a (fun k d=>(ch h.vers d).notin b (by decide)),aJ h.sealed a (fun k d=>(ch h.sealed d).notin b (by decide)),a.blk h.book (h.book.ty.notin b (by decide)),a.blk h.bclock (by simpa using h.two),hb,h.maps.turned a (eF h.maps b),h.two,h.rp⟩,a.mono (fun x c=>by simp at c;subst c;simp[ar.foot]),fun x c=> .inl c⟩
theorem EQ (i:ar) (v:ak) (t:Int) (w:World) (h:am w i v):
  Calls prog 39 #[.pointer (some ⟨i.vb,0,none⟩), .int .i64 t] w fun e f=>bT (fM v.clock t) w f e (e= .returned (.int .i64 0)∧aK w f i v i {v with clock:=t}):=by
 have b:=hid h;have l:=h.vol.cell (i:=6) rfl;clear h;go_enter func39,ntmps39;go_wp2_with fail
 refine(aQ i v _ b.out).mono ?_
 rintro e f ⟨rfl,rfl⟩;go_wp2_with fail
 by_cases a:fM v.clock t=0
 ·have c:=hid a
  have d:=hid (show(0≤t∧t≤1099511627776)∧v.clock≤t by
   unfold fM at a
   split at a
   ·cases a
   ·split at a
    ·cases a
    ·omega)
  clear a
  refine(ku i.cb v.clock t _ b.clock d.out.1.1 d.out.1.2 d.out.2).mono ?_
  rintro e k ⟨⟨rfl,hb⟩,g⟩;have j:=hid (b.ticked g hb);clear hb g;go_wp2_with fail;go_ret;exact bT.yes c.out ⟨rfl,j.out⟩
 ·have c:=hid a
  clear a
  refine(tu i.cb v.clock t _ b.clock c.out).mono ?_
  rintro e k ⟨rfl,rfl⟩;go_wp2_with fail;go_ret;exact bT.no rfl c.out (Below.refl _ _)
theorem lV {P:Program} (w:World) (m s u d:TypeId) (size g o c f:Nat) (a:Addr) (e l:Nat) (b:Array Value) (t:TypeId) (cs:List Value)
  (hu:P.underlying m=some (.slice d)) (n:(P.info? d).map (·.size)=some size) (q:w.heap[g]?=some (.cells b t (0,0))) (hn:cs.length=Nat.min e c*size)
  (k:∀j v,cs[j]?=some v→w.cell? (a.add j)=some v) (h:o+cs.length≤b.size) (p:∀v∈cs,v.oneCell'=true):
  (Builtin.copy_ #[m,s] u #[.slice (some ⟨g,o,none⟩) c f, .slice (some a) e l]).run P w=
   .ok (goInt (Nat.min e c)) (w.setRow g (b.toList.take o++cs++b.toList.drop (o+cs.length)).toArray):=by
 have hl:=run_loadCells_list (P:=P) w a cs k;have bH:=run_storeCells_at P g o t cs 0 b w q (by simpa using h) p
 cases hq:P.info? d with
 |none=>simp[hq]at n
 |some i=>
  have r:i.size=size:=by simpa[hq]using n
  simp[Builtin.copy_,run_underlying hu,Builtin.lenOf,Builtin.firstCells,sizeOf,typeInfo,hq,r,←hn,hl,bH]
theorem ER {P:Program} (w:World) {o:Oper} {a:Act} {K:Act→World→Prop} {Q:Exit→Act→World→Prop} (d s:Operand) (t b:TypeId)
  (e:o.op= .call {callee:= .builtin .copy,args:=#[d,s],argTypes:=#[t,b]}) (v u:Value) (hd:a.eval d=v) (g:a.eval s=u) {v':Value} {c:World}
  (f:(Builtin.copy_ #[t,b] o.type #[v,u]).run P w= .ok v' c) (h:K (a.put o.dst v') c):o.wp P a w K Q:=by
 unfold Oper.wp execOp;simp only[e,resolve,invoke,builtin,Sem.run_bind,Sem.run_pure,Result.andThen_ok,List.map_toArray,List.map_cons,List.map_nil,hd,g,f];exact h
theorem oJ {P:Program} (w:World) {c:Array Oper} {b:List Oper} {o:Oper} {a:Act} {Q:Exit→Act→World→Prop} (e:o.guard=none) (d s:Operand) (t f:TypeId)
  (i:o.op= .call {callee:= .builtin .copy,args:=#[d,s],argTypes:=#[t,f]}) (v u:Value) (hd:a.eval d=v) (k:a.eval s=u) {v':Value} {g:World}
  (j:(Builtin.copy_ #[t,f] o.type #[v,u]).run P w= .ok v' g) (h:wpList P c Q b (a.put o.dst v') g):wpList P c Q (o::b) a w:=
 wpList_plain e fun _ hK=>ER w d s t f i v u hd k j (hK _ _ h)
theorem qP {P:Program} {b:Array Oper} {o:Oper} {a:Act} {w:World} {K:Act→World→Prop} {Q:Exit→Act→World→Prop} {E:Prop}
  (i:o.guard=none) (d x:Operand) (e f:TypeId) (c:o.op=Op.call {callee:=Callee.builtin Builtin.copy,args:=#[d,x],argTypes:=#[e,f]})
  (v u:Value) (hd:a.eval d=v) (l:a.eval x=u) {v':Value} {g:World} (j:(Builtin.copy_ #[e,f] o.type #[v,u]).run P w= .ok v' g) (h:K (a.put o.dst v') g):
  if Region.wanted o (yielded b a.tmps)=true then Oper.wp P o a w K Q else E:=by
 have k:Region.wanted o (yielded b a.tmps)=true:=by simp[Region.wanted,i]
 rw[if_pos k];unfold Oper.wp;simp[execOp,c,resolve,invoke,builtin,hd,l,j,Result.andThen];exact h
end Go.Proofs.YtadooplpfhdhcaaGreat
