/- An epoch is closed (chapter 26): where there is no ring. A journal's Flush, Over, Commit (chapter 25), over a volume that has power. -/
import Derived.Test.YtadooplpfhdhcaaGreatQ22
import Derived.Test.YtadooplpfhdhcaaGreatQ23
import Derived.Test.YtadooplpfhdhcaaGreatQ7
set_option linter.unusedSimpArgs false
set_option linter.unusedVariables false
set_option maxRecDepth 100000
set_option maxHeartbeats 4000000
namespace Go.Proofs.YtadooplpfhdhcaaGreat
open Go Go.RowKit
open Go.Lib (hid)
open Go.Proofs.Tryz
structure oa (v:ai):Prop where
 ok:bp v
 key:v.key.size=32
 e0:0≤v.epoch
 e1:v.epoch<4294967295
 room:v.used<v.last.geo.blocks-4
 sealed:v.sealed.length≤1048575
 tame:jJ v.sealed
 last:(bO v.sealed).size=32
 c0:v.last.clock≤v.clock
 gen:v.last.gen≠1152921504606846976
 ep:v.last.epoch=v.epoch
 now:v.now≤v.clock
 t0:0≤v.clock
 t1:v.clock≤1099511627776
structure DF (i:ap) (v:ai) (cnt:Int) (l:List UInt8):Prop where
 n0:0≤cnt
 n1:cnt≤4096
 len:l.length=32
 ex:∃T:World→Nat→Prop,
  (∀wx,al wx i v→Calls prog 59 #[.pointer (some ⟨i.vb,0,none⟩), .int .i64 v.epoch] wx fun e w'=>(∃ps,e= .returned (.tuple #[.pointer (some ⟨ps,0,none⟩), .int .i64 0])∧T w' ps)∧Below wx.heap.size wx w')∧
  (∀wx ps,T wx ps→Calls prog 82 #[.pointer (some ⟨ps,0,none⟩)] wx fun e w'=>e= .returned (.int .i64 cnt)∧wx=w')∧
  (∀wx ps,T wx ps→Calls prog 83 #[.pointer (some ⟨ps,0,none⟩)] wx fun e w'=>(∃s,e= .returned (.string s)∧ah s l)∧Below wx.heap.size wx w')
def aE (v:ai) (cnt:Int) (s:ByteArray):Rec:=⟨1,v.epoch,v.clock,cnt,0,0,s,⟨#[]⟩⟩
theorem By (e t n:Int) (s:ByteArray):prog.built 59 [(0, .int .i64 1),(1, .int .i64 e),(2, .int .i64 t),(3, .int .i64 n),(6, .string s)]=some (Rec.cells ⟨1,e,t,n,0,0,s,⟨#[]⟩⟩).toArray:=by kernel_rfl
theorem kZ {v:ai} (h:oa v) {a:Int} (i:0≤a) (j:a≤4096) {s:ByteArray} (g:s.size=32):aI (aE v a s)=true:=by
 have b:=h.e0;have k:=h.e1;have c:=h.t0;have d:=h.t1;have e:v.epoch≤4294967295:=by omega
 have f:ByteArray.size (⟨#[]⟩:ByteArray)=0:=rfl;simp[aI,aW,aE,g,b,c,d,e,f,i,j]
theorem qa {l:List aD} {x:aD} (h:jJ l) (c:x.r.name.size≤1048576∧x.r.root.size≤1048576∧x.tag.size≤1048576∧Fits x.r.epoch):jJ (l++[x]):=by
 intro j y hy
 by_cases b:j<l.length
 ·rw[List.getElem?_append_left b]at hy;exact h j y hy
 ·rw[List.getElem?_append_right (by omega)]at hy
  have a:y=x:=by
   cases hk:j-l.length with
   |zero=>rw[hk]at hy;simpa using hy.symm
   |succ n=>rw[hk]at hy;simp at hy
  subst a;exact c
theorem Ty.lt {w:World} {b:Nat} {t:TypeId} (h:Ty w b t):b<w.heap.size:=by
 obtain⟨_,_,h⟩:=h
 exact(Array.getElem?_eq_some_iff.1 h).1
theorem al.foot_lt {w:World} {i:ap} {v:ai} (h:al w i v):∀x,x∈i.foot v.d→x<w.heap.size:=by
 intro x a;simp only[ap.foot,List.mem_append,List.mem_cons,List.not_mem_nil,or_false,Option.mem_toList,Option.mem_def]at a
 rcases a with(rfl|rfl|rfl|rfl|rfl|rfl|rfl|rfl|rfl|rfl)|a|a|a
 ·exact h.vol.lt
 ·exact h.jour.lt
 ·exact h.space.lt
 ·exact h.index.lt
 ·exact h.book.lt
 ·exact h.bclock.lt
 ·exact h.clock.lt
 ·exact h.maps.u.lt
 ·exact h.maps.l.lt
 ·exact h.maps.g.lt
 ·obtain⟨t,_,b⟩:=h.disk.tyIn x a
  exact b.lt
 ·exact(aN h.vers a).lt
 ·exact(aN h.sealed a).lt
theorem al.fresh {w0:World} {i:ap} {v:ai} {b:Nat} (h:al w0 i v) (hb:w0.heap.size≤b):b∉i.foot v.d:=fun a=>by
 have:=h.foot_lt b a
 omega
section
variable {P:Program} {o:Oper} {a:Act} {w:World} {K:Act→World→Prop} {Q:Exit→Act→World→Prop}
theorem dm (t e:TypeId) (c:Nat) (parts:Array (Nat×Operand)) (b:List Value) (z:Value) (d j:Nat)
  (hu:P.underlying t=some (.slice e)) (k:(P.info? e).map (fun i=>(i.zero,i.size,i.bytes))=some (some z,d,j)) (r:c*d≤16777216) (l:0<c*d)
  (q:o.op= .buildSlice t c parts)
  (p:Instr.fill (fun i=>some (i*d,d)) ((Array.range (c*d)).map (z.cells[· % z.cells.size]!)) (parts.map fun(i,x)=>(i,a.eval x)).toList=some b.toArray)
  (h:∀g f,w.heap.size≤g→ac f g b e→Below g w f→g<f.heap.size→K (a.put o.dst (.slice (some ⟨g,0,none⟩) c c)) f):o.wp P a w K Q:=by
 cases hie:P.info? e with
 |none=>simp[hie]at k
 |some ie=>
  simp only[hie,Option.map_some,Option.some.injEq,Prod.mk.injEq]at k;obtain⟨m,n,_⟩:=k;subst n;exact wp_buildSlice t e c parts q b.toArray ie z hu hie m (by omega) (by omega) p (h _ _ (Nat.le_refl _) (ac.new w b e) ((Below.refl _ _).alloc (Nat.le_refl _) _) (by simp))
end
theorem tX {w:World} {b:Nat} {r:Rec} {t:ByteArray} (h:w.rangeAt b 0 (aD.cells ⟨r,t⟩)):w.rangeAt b 0 r.cells:=fun j u hu=>h j u (by
 show(r.cells++[.string t])[j]?=some u
 rw[List.getElem?_append_left (List.getElem?_eq_some_iff.1 hu).1];exact hu)
theorem u9 {w:World} {i:ap} {v:ai} (h:al w i v):i.bb≠i.c2:=fun e=>absurd (show 193=188 from(e ▸ h.book.ty).eq h.bclock.ty) (by decide)
theorem DG {w:World} {i:ap} {v:ai} (h:al w i v) (k:Nat) (x:Value):(w.setCell ⟨i.vb,k,none⟩ x).ownsRow 0 61 9 i.sv v.sealed.length (dM v.sealed):=
 ay h.sealed ((af.refl [i.vb] w).setCell (.inl (by simp)) k x) (fun k a=>(aN h.sealed a).notin (bQ.one h.vol.ty) (by decide))
theorem mX (i:ap) (v:ai) (g:Int) (l:List UInt8) (w:World) (h:al w i v) (fb:i.rv= .pointer none) (hc:oa v) (bt:DF i v g l):
  Calls prog 25 #[.pointer (some ⟨i.vb,0,none⟩)] w fun e w'=>∃(s t bl nk kb q nb:ByteArray) (sv:Value),ah s l∧ah t (jj v.key.data.toList (bO v.sealed).data.toList (v.sealed.length:Int) (aE v g s))∧ah bl (holdL (cD (aE v g s)++t.data.toList))∧ah nk (iJ v.key.data.toList [110,101,120,116] [])∧ah kb (ew (v.last.epoch+1) nk.data.toList)∧ah q (cG (ev v v.clock))∧nb=(⟨(List.replicate 4096 0).toArray⟩:ByteArray)∧
   e= .returned (.tuple #[(ic (v.sealed++[⟨aE v g s,t⟩]) (v.sealed.length:Int)).1.v, .int .i64 (ic (v.sealed++[⟨aE v g s,t⟩]) (v.sealed.length:Int)).2])∧
   aJ w w' i v {i with sv:=sv} {v with used:=v.used+1,last:=ev v v.clock,d:=ff v bl kb q nb,key:=nk,sealed:=v.sealed++[⟨aE v g s,t⟩],epoch:=v.epoch+1,now:=v.clock}:=by
 have H0:=hid h;have o:=hid hc;have cW:=hid fb;have hw:=hid (show v.epoch<4294967295 from hc.e1);have a0:=hid (show 0≤g∧g≤4096 from⟨bt.n0,bt.n1⟩);have a8:=hid bt.len;obtain⟨T,t1,t2,t3⟩:=bt.ex;have gl:=hid t1;have gm:=hid t2;have gn:=hid t3;clear t1 t2 t3 bt;have hE:¬(4294967295:Int)≤v.epoch:=by have:=hc.e1;omega
 clear h hc fb;go_enter func25,ntmps25
 go_wp2_with (first
  |((with_reducible refine ab 84 _ jK (some 2) ?hgd ?ho ?hd ?_);(case hgd|ho|hd=>rfl);(intro b2 w1 l1 B1 e1 z1))
  |fail)
 have d3:=hid B1;have bw:=hid l1;have a4:=hid (e1.mono l1);have H1:=hid (H0.below a4.out);clear B1 e1 z1 l1
 refine(aP i v _ H1.out).mono ?_
 rintro e w' ⟨rfl,rfl⟩;have c5:w1.cell? ⟨i.vb,5,none⟩=some (.pointer (some ⟨i.bb,0,none⟩)):=H1.vol.cell (i:=5) rfl;go_wp2_with fail
 refine(aR i.bb i.c2 v.first v.epoch i.m1 i.m2 i.m3 _ H1.book).mono ?_
 rintro e w' ⟨rfl,rfl⟩;have c0:w1.cell? ⟨i.vb,0,none⟩=some (.pointer (some ⟨i.jb,0,none⟩)):=H1.vol.cell (i:=0) rfl;have j0:w1.cell? ⟨i.jb,0,none⟩=some (.pointer (some ⟨i.sb,0,none⟩)):=H1.jour.cell (i:=0) rfl;go_wp2_with fail
 refine(kr i.sb v.last.geo v.used _ H1.space o.ok.sup.geo).mono ?_
 rintro e w2 ⟨rfl,b1⟩;rw[decide_eq_true o.room];have d4:=hid (d3.below b1 d3.lt);have ck:=hid (a4.trans (b1.mono a4.size));have H2:=hid (H1.below b1);clear b1 c5 c0 j0;go_wp2_with fail
 refine(gl.out _ H2.out).mono ?_
 rintro e w3 ⟨⟨ps,rfl,fd⟩,b3⟩;have ej:=hid fd;have d5:=hid (d4.below b3 d4.lt);have cl:=hid (ck.trans (b3.mono ck.size));have H3:=hid (H2.below b3);clear b3 fd;have c6:w3.cell? ⟨i.vb,6,none⟩=some (.pointer (some ⟨i.cb,0,none⟩)):=H3.vol.cell (i:=6) rfl;go_wp2_with fail
 refine(dC i.cb v.clock _ H3.clock).mono ?_
 rintro e w' ⟨rfl,rfl⟩;go_wp2_with fail
 refine(gm.out _ ps ej.out).mono ?_
 rintro e w' ⟨rfl,rfl⟩;go_wp2_with fail
 refine(gn.out _ ps ej.out).mono ?_
 rintro e w4 ⟨⟨s,rfl,ts⟩,b4⟩;have Q:=hid ts;have d6:=hid (d5.below b4 d5.lt);have cm:=hid (cl.trans (b4.mono cl.size));have H4:=hid (H3.below b4);clear b4 ts c6
 go_wp2_with (first
  |((with_reducible refine au 59 ?parts57 (Rec.cells (aE v g s)) ?hg ?ho ?hf ?_);(case hg|ho=>rfl);(case hf=>exact By _ _ _ _))
  |fail)
 refine(wJ i v (aE v g s) _ H4.out cW.out o.key ⟨o.last,by omega,by have:=o.sealed;omega,kZ o.out a0.out.1 a0.out.2 (by rw[Q.size,a8.out])⟩ (by show s.size≤1048576;rw[Q.size,a8.out];omega) (by show(0:Nat)≤1048576;omega) (by have:=o.e0;have:=o.e1;show Fits v.epoch;unfold Fits;omega) (by have:=o.sealed;omega)).mono ?_
 rintro e w5 ⟨⟨t,bl,rfl,tt,tb⟩,b5⟩;have c7:=hid tt;have c1:=hid tb;have d7:=hid (d6.below b5 d6.lt);have co:=hid (cm.trans (b5.mono cm.size));have H5:=hid (H4.below b5)
 have gc:=hid (show(cD (aE v g s)++t.data.toList).length≤4000 from by
  have h1:=eO (kZ o.out a0.out.1 a0.out.2 (by rw[Q.size,a8.out]:s.size=32));have h2:t.data.toList.length=32:=by rw[show t.data.toList= _ from tt,di]
  rw[List.length_append];omega)
 have bd:=hid (show jJ (v.sealed++[⟨aE v g s,t⟩])from qa o.tame ⟨by show(0:Nat)≤1048576;omega,by show s.size≤1048576;rw[Q.size,a8.out];omega,by show t.size≤1048576;rw[c7.size,di];omega,by have:=o.e0;have:=o.e1;show Fits v.epoch;unfold Fits;omega⟩);clear b5 tt tb;have gw:(⟨aE v g s,t⟩:aD)=⟨aE v g s,t⟩:=rfl;clear gw
 go_upto_region 10 with(first
  |((with_reducible refine ab 61 _ oN (some 7) ?hgd ?ho ?hd ?_);(case hgd|ho|hd=>rfl);(intro b7 w6 l6 B6 e6 z6))
  |((with_reducible refine aa 61 (.tmp 7) (.tmp 59) b7 (aD.cells ⟨Rec.zero,⟨#[]⟩⟩) (aD.cells ⟨aE v g s,t⟩) 61 B6 rfl fY (fE _) ?hgd ?ho ?hx ?hy ?_);(case hgd|ho|hx|hy=>rfl);(intro w7 B7 o7))
  |fail)
 have b6:Below w5.heap.size w5 w7:=o7.below (e6.mono l6) l6;have ef:=hid (show w5.heap.size≤b7 from l6);have er:=hid B7;have d8:=hid (d7.below b6 d7.lt);have cs:=hid (co.trans (b6.mono co.size));have H7:=hid (H5.below b6);clear B6 B7 e6 z6 o7 l6 b6;have hF:IntKind.i64.wrap (v.epoch+1)=v.epoch+1:=IntWalk.i64_in _ (by have:=o.e0;have:=o.e1;omega);refine wp_region_held_drew (S:=fun wx=>wx.cell? ⟨i.vb,7,none⟩=some (.pointer none)∧wx.cell? ⟨i.vb,1,none⟩=some (.string v.key)) (by kernel_rfl) (⟨(by rw[←cW.out];exact H7.vol.drew.cell (i:=7) rfl),H7.vol.drew.cell (i:=1) rfl⟩) (fun c=> ?_);obtain⟨wd,ce⟩:∃wd,wd=w7.drew:=⟨_,rfl⟩;have bn:Below w7.heap.size w7 wd:=by rw[ce];exact(Below.refl _ _).drew
 have Hd:=hid (H7.below bn);have es:=hid (er.below bn er.lt);have ea:=hid (d8.below bn d8.lt);have cu:=hid (cs.trans (bn.mono cs.size));rw[←ce];rw[←ce]at c;clear ce bn;refine hp 0 ?_;refine hp 1 ?_;refine hp 2 ?_;refine hp 3 ?_;refine hp 4 ?_;refine hp 5 ?_;refine hp 6 ?_;refine hp 7 ?_;refine hp 8 ?_;refine hp 9 ?_;refine wpAnyH_ready (rs:=[10]) (by kernel_rfl) (by simp) ?_;refine AllReadyH.cons rfl (fun K m=> ?_) AllReadyH.nil;go_simp
 refine(xJ (v.epoch+1) v.key _ o.key).mono ?_
 rintro e we ⟨⟨nk,rfl,tn⟩,bo⟩;have c3:=hid tn;have He:=hid (Hd.below bo);have et:=hid (es.below bo es.lt);have eb:=hid (ea.below bo ea.lt);have cv:=hid (cu.trans (bo.mono cu.size));clear bo tn
 (try go_wp2_with fail)
 refine m.out _ _ (⟨(by rw[←cW.out];exact He.vol.cell (i:=7) rfl),He.vol.cell (i:=1) rfl⟩) (fun b=> ?_);clear m K c;have c:=b;clear b
 (try go_frame)
 refine hp 11 ?_;refine wpAnyH_done (by kernel_rfl) ?_ _;clear c;go_upto_region 11 with fail;refine wp_region_held_drew (S:=fun wx=>wx.cell? ⟨i.vb,0,none⟩=some (.pointer (some ⟨i.jb,0,none⟩))∧wx.cell? ⟨i.vb,6,none⟩=some (.pointer (some ⟨i.cb,0,none⟩))) (by kernel_rfl) (⟨He.vol.drew.cell (i:=0) rfl,He.vol.drew.cell (i:=6) rfl⟩) (fun c=> ?_);obtain⟨wg,cf⟩:∃wg,wg=we.drew:=⟨_,rfl⟩;have bs:Below we.heap.size we wg:=by rw[cf];exact(Below.refl _ _).drew
 have Hg:=hid (He.below bs);have go:=hid (et.below bs et.lt);have f9:=hid (eb.below bs eb.lt);have d9:=hid (cv.trans (bs.mono cv.size));rw[←cf];rw[←cf]at c;clear cf bs;refine hp 0 ?_;refine hp 1 ?_;refine hp 2 ?_;refine hp 3 ?_;refine hp 4 ?_;refine hp 5 ?_;refine hp 6 ?_;refine hp 7 ?_;refine hp 8 ?_;refine hp 9 ?_;refine wpAnyH_ready (rs:=[10]) (by kernel_rfl) (by simp) ?_;refine AllReadyH.cons rfl (fun K m=> ?_) AllReadyH.nil;go_simp
 refine(dC i.cb v.clock _ Hg.clock).mono ?_
 rintro e w' ⟨rfl,rfl⟩
 (try go_wp2_with fail)
 refine m.out _ _ (⟨Hg.vol.cell (i:=0) rfl,Hg.vol.cell (i:=6) rfl⟩) (fun b=> ?_);clear m K c;have c:=b;clear b
 (try go_frame)
 refine wpAnyH_ready (rs:=[11]) (by kernel_rfl) (by simp) ?_;refine AllReadyH.cons rfl (fun K m=> ?_) AllReadyH.nil;go_simp
 refine(Bv i v bl nk v.clock _ Hg.out o.ok (by rw[c1.size];exact gh _ gc.out) (by rw[c3.size,gK]) o.room o.c0 o.t1 o.gen (by rw[o.ep];exact o.e1)).mono ?_
 rintro e wh ⟨rfl,kb,q,nb,tk,tq,e9,ht⟩;have el:=hid tk;have em:=hid tq;have eg:=hid e9;have ey:=hid (ht.turned.blk go.out (H5.fresh ef.out));have ec:=hid (ht.turned.blk f9.out (H0.fresh bw.out));have I:=hid (aJ.ahead d9.out ht);clear ht tk tq e9
 (try go_wp2_with fail)
 refine m.out _ _ (⟨I.at'.vol.cell (i:=0) rfl,I.at'.vol.cell (i:=6) rfl⟩) (fun b=> ?_);clear m K c;have c:=b;clear b
 (try go_frame)
 refine hp 12 ?_;refine hp 13 ?_;refine hp 14 ?_;refine hp 15 ?_;refine hp 16 ?_;refine wpAnyH_done (by kernel_rfl) ?_ _;clear c;have f1:=I.at'.vol.free 1;have x1:=I.at'.vol.cell (i:=1) rfl;go_upto_region 15 with fail;have ca:af [i.vb] wh (wh.setCell ⟨i.vb,1,none⟩ (.string nk)):=(af.refl _ _).setCell (.inl (by simp)) 1 _;have aA:=hid (H5.fresh ef.out);have aq:=hid (H0.fresh bw.out);have e7:b7∉[i.vb]:=fun O=>aA.out (by simp at O;rw[O];simp[ap.foot])
 have e5:b2∉[i.vb]:=fun O=>aq.out (by simp at O;rw[O];simp[ap.foot])
 have bx:=hid (ca.blk ey.out e7);have cy:=hid (ca.blk ec.out e5);have c8:=hid (I.trans (I.at'.own (key:=nk) (sv:=i.sv) (l:=v.sealed) (ca.mono (fun x hx=>by simp at hx;subst hx;simp)) (I.at'.vol.set 1 (.string nk)) (DG I.at' 1 (.string nk)) (fun k Z=> .inl Z)));obtain⟨wi,dv⟩:∃wi,wi=wh.setCell ⟨i.vb,1,none⟩ (.string nk):=⟨_,rfl⟩;rw[←dv]at bx cy c8;rw[←dv];clear dv f1 x1 ca e7 e5 I ey ec;refine wp_region_held_drew (S:=fun wx=>wx.rangeAt b7 0 (aE v g s).cells∧wx.cell? ⟨i.vb,5,none⟩=some (.pointer (some ⟨i.bb,0,none⟩))) (by kernel_rfl) (⟨tX bx.drew.range,c8.at'.vol.drew.cell (i:=5) rfl⟩) (fun c=> ?_);obtain⟨wj,cg⟩:∃wj,wj=wi.drew:=⟨_,rfl⟩;have b8:Below wi.heap.size wi wj:=by rw[cg];exact(Below.refl _ _).drew
 have gr:=hid (bx.below b8 bx.lt);have gb:=hid (cy.below b8 cy.lt);have a1:=hid (c8.below b8);rw[←cg];rw[←cg]at c;clear cg b8;refine hp 0 ?_;refine hp 1 ?_;refine hp 2 ?_;refine hp 3 ?_;refine hp 4 ?_;refine wpAnyH_take (i:=5) (v:= .agg ((aE v g s).cells).toArray) rfl (by kernel_rfl) (by kernel_rfl) (by kernel_rfl) (fun _ _ _ h=>h) (yieldsIf_load_mid (by rfl) 59 (.tmp 99) rfl b7 0 rfl ((aE v g s).cells) _ (fun w h=>h.1) underlying59 rfl aV) (by assumption) ?_
 (try go_frame)
 refine wpAnyH_ready (rs:=[6]) (by kernel_rfl) (by simp) ?_;refine AllReadyH.cons rfl (fun K m=> ?_) AllReadyH.nil;go_simp
 refine(A8 i.bb i.c2 i.m1 i.m2 i.m3 v.n v.first v.epoch v.now v.U v.L v.G (aE v g s) _ a1.at'.book a1.at'.bclock a1.at'.maps rfl (kZ o.out a0.out.1 a0.out.2 (by rw[Q.size,a8.out])) rfl o.now (u9 a1.at')).mono ?_
 rintro e wk ⟨⟨rfl,e3,e4⟩,cc⟩;have b0:=hid (cc.blk gr.out (fun O=>aA.out (by simp at O;rcases O with O|O<;>(rw[O];simp[ap.foot]))));have ee:=hid (cc.blk gb.out (fun O=>aq.out (by simp at O;rcases O with O|O<;>(rw[O];simp[ap.foot]))));have en:=hid (a1.trans (a1.at'.closed cc e3 e4));clear e3 e4 cc
 (try go_wp2_with fail)
 refine m.out _ _ (⟨tX b0.range,en.at'.vol.cell (i:=5) rfl⟩) (fun b=> ?_);clear m K c;have c:=b;clear b
 (try go_frame)
 refine wpAnyH_done (by kernel_rfl) ?_ _;clear c;go_upto_region 16 with fail;refine wp_region_held_drew (S:=fun wx=>wx.rangeAt b7 0 (aD.cells ⟨aE v g s,t⟩)) (by kernel_rfl) (b0.drew.range) (fun c=> ?_);obtain⟨wl,ci⟩:∃wl,wl=wk.drew:=⟨_,rfl⟩;have b9:Below wk.heap.size wk wl:=by rw[ci];exact(Below.refl _ _).drew
 have bm:=hid (b0.below b9 b0.lt);have bv:=hid (ee.below b9 ee.lt);have c9:=hid (en.below b9);rw[←ci];rw[←ci]at c;clear ci b9;refine hp 0 ?_;refine hp 1 ?_;refine hp 2 ?_;refine hp 3 ?_;refine wpAnyH_take (i:=5) (v:= .agg ((aD.cells ⟨aE v g s,t⟩)).toArray) rfl (by kernel_rfl) (by kernel_rfl) (by kernel_rfl) (fun _ _ _ h=>h) (yieldsIf_load_mid (by rfl) 61 (.tmp 7) rfl b7 0 rfl ((aD.cells ⟨aE v g s,t⟩)) _ (fun w h=>h) underlying61 rfl fY) (by assumption) ?_
 (try go_frame)
 obtain⟨i0,hi,fr,fs,fv⟩:=info_parts fg;refine wpAnyH_ready (rs:=[4,6]) (by kernel_rfl) (by simp) ?_;refine AllReadyH.cons rfl (fun K m=> ?_) (AllReadyH.cons rfl (fun K m=> ?_) AllReadyH.nil)
 ·have c4:wl.cell? ⟨i.vb,4,none⟩=some i.sv:=c9.at'.vol.cell (i:=4) rfl
  go_simp;clear c4;refine m.out _ _ (bm.range) (fun b=> ?_);clear m K c;have c:=b;clear b
  (try go_frame)
  refine wpAnyH_ready (rs:=[6]) (by kernel_rfl) (by simp) ?_;refine AllReadyH.cons rfl (fun K m=> ?_) AllReadyH.nil;refine dm 54 61 1 _ (aD.cells ⟨aE v g s,t⟩) (.agg (aD.cells ⟨Rec.zero,⟨#[]⟩⟩).toArray) 9 96 underlying54 fg (by omega) (by omega) rfl (by kernel_rfl) ?_;intro g8 w8 l8 B8 e8 z8;have J:Below wl.heap.size wl w8:=e8.mono l8;have cz:=hid B8;have a2:=hid (bm.below J bm.lt);have cx:=hid (bv.below J bv.lt);have p:=hid (c9.below J);clear B8 e8 z8 J l8;refine m.out _ _ (a2.range) (fun b=> ?_);clear m K c;have c:=b;clear b
  (try go_frame)
  refine wpAnyH_ready (rs:=[7]) (by kernel_rfl) (by simp) ?_;refine AllReadyH.cons rfl (fun K m=> ?_) AllReadyH.nil;refine cM _ _ 54 rfl i0 (.agg (aD.cells ⟨Rec.zero,⟨#[]⟩⟩).toArray) 96 underlying54 hi fr fs fv rfl (by decide) rfl p.at'.sealed ⟨g8,0,none⟩ 1 1 (aD.cells ⟨aE v g s,t⟩) rfl rfl (bI cz.out) (fE _) (by have:=o.sealed;show v.sealed.length+1≤maxLen;unfold maxLen;omega) (by have:=o.sealed;show(v.sealed.length+1)*96≤140737488355328;omega) (Nat.zero_le _) ?_;intro v' w9 D r u;have j:w8.grownBy w9 i.sv.ownBlock:=r;have C:dW w8 i.sv.ownBlock v'.ownBlock:=u;clear r u;have W:=hid (a2.grown j (fun e=>aA.out (by simp only[ap.foot,List.mem_append,Option.mem_toList,Option.mem_def];exact .inr (.inr (.inr e.symm)))));have a3:=hid (cx.grown j (fun e=>aq.out (by simp only[ap.foot,List.mem_append,Option.mem_toList,Option.mem_def];exact .inr (.inr (.inr e.symm)))));have A:=hid (p.at'.vol.grown j (fun e=>absurd (show 61=104 from(aN p.at'.sealed e.symm).eq p.at'.vol.ty) (by decide)));obtain⟨F,H,dt⟩:=az D;subst dt;have P:=hid D;have a7:=hid j;have a9:=hid C;clear D j C;refine m.out _ _ (W.range) (fun b=> ?_);clear m K c;have c:=b;clear b
  (try go_frame)
  refine hp 8 ?_;refine hp 9 ?_;have c4:=A.cell (i:=4) rfl;have f4:=A.free 4;refine wpAnyH_ready (rs:=[10]) (by kernel_rfl) (by simp) ?_;refine AllReadyH.cons rfl (fun K m=> ?_) AllReadyH.nil;go_simp;have N:=hid (W.set_other (a:=⟨i.vb,4,none⟩) (fun e=>aA.out (by rw[e];simp[ap.foot])) (.slice F (v.sealed.length+1) H));have y:=hid (a3.set_other (a:=⟨i.vb,4,none⟩) (fun e=>aq.out (by rw[e];simp[ap.foot])) (.slice F (v.sealed.length+1) H));refine m.out _ _ (N.range) (fun b=> ?_);clear m K c;have c:=b;clear b
  (try go_frame)
  refine wpAnyH_done (by kernel_rfl) ?_ _;clear c c4 f4;have z:=hid (p.trans (p.at'.own (key:=nk) (sv:=(.slice F (v.sealed.length+1) H)) (l:=v.sealed++[⟨aE v g s,t⟩]) ((af.of_grown a7.out (fun k Z=>by simp[Z])).setCell (.inl (by simp)) 4 (.slice F (v.sealed.length+1) H)) (A.set 4 (.slice F (v.sealed.length+1) H)) (by rw[List.length_append,jS];exact ay P.out ((af.refl [i.vb] w9).setCell (.inl (by simp)) 4 (.slice F (v.sealed.length+1) H)) (fun k Z=>(aN P.out Z).notin (bQ.one A.ty) (by decide))) (fun k Z=>a9.elim (fun e=> .inl (by rw[←e];exact Z)) (fun f=> .inr (f k Z)))));obtain⟨E,B⟩:∃E,E=w9.setCell ⟨i.vb,4,none⟩ (.slice F (v.sealed.length+1) H):=⟨_,rfl⟩;rw[←B]at z y;rw[←B];clear B A P a7 a9 W a3 N;go_upto_region 17 with fail;have fn:IntKind.i64.wrap (v.sealed.length:Int)=(v.sealed.length:Int):=IntWalk.i64_in _ (by have:=o.sealed;omega);have fo:IntKind.i64.wrap ((v.sealed.length:Int)+1-1)=(v.sealed.length:Int):=by rw[IntWalk.i64_in _ (by have:=o.sealed;omega)];omega
  refine wp_region_held_drew (S:=fun wx=>wx.cell? ⟨i.vb,4,none⟩=some (.slice F (v.sealed.length+1) H)) (by kernel_rfl) (z.at'.vol.drew.cell (i:=4) rfl) (fun c=> ?_);obtain⟨wm,M⟩:∃wm,wm=E.drew:=⟨_,rfl⟩;have X:Below E.heap.size E wm:=by rw[M];exact(Below.refl _ _).drew
  have be:=hid (z.below X);have a5:=hid (y.below X y.lt);rw[←M];rw[←M]at c;clear M X;refine hp 0 ?_;refine hp 1 ?_;refine hp 2 ?_;refine hp 3 ?_;refine hp 4 ?_;refine hp 5 ?_;refine hp 6 ?_;refine hp 7 ?_;refine hp 8 ?_;refine hp 9 ?_;refine wpAnyH_ready (rs:=[10]) (by kernel_rfl) (by simp) ?_;refine AllReadyH.cons rfl (fun K m=> ?_) AllReadyH.nil;go_simp
  refine(wI (.slice F (v.sealed.length+1) H) (v.sealed++[⟨aE v g s,t⟩]) (v.sealed.length:Int) _ (dG.own (n:=v.sealed.length+1) (by have h9:=be.at'.sealed;simp only[List.length_append,List.length_cons,List.length_nil,Nat.zero_add]at h9;exact h9) (by simp)) (by rw[List.length_append];have:=o.sealed;show v.sealed.length+1≤1048576;omega) bd.out).mono ?_
  rintro e wn ⟨he,Y⟩;unfold qU at he;obtain⟨R,hR⟩:∃R,ic (v.sealed++[⟨aE v g s,t⟩]) (v.sealed.length:Int)=R:=⟨_,rfl⟩;rw[hR]at he;subst he;have HR:=hid hR;have V:=hid (be.below Y);have a6:=hid (a5.below Y a5.lt);clear Y hR
  (try go_wp2_with fail)
  refine m.out _ _ (V.at'.vol.cell (i:=4) rfl) (fun b=> ?_);clear m K c;have c:=b;clear b
  (try go_frame)
  refine hp 11 ?_;refine hp 12 ?_;refine wpAnyH_ready (rs:=[13]) (by kernel_rfl) (by simp) ?_;refine AllReadyH.cons rfl (fun K m=> ?_) AllReadyH.nil;refine kj 84 (.tmp 2) (.tmp 123) b2 bJ.zero.cells R.1.cells 84 a6.out rfl dE (bJ.cells_one _) rfl rfl rfl ?_;intro wo Bo oo;have bk:=hid (V.away (oo.turned (by simp)) (V.at'.notype a6.ty (by decide)) bw.out);refine m.out _ _ (bk.at'.vol.cell (i:=4) rfl) (fun b=> ?_);clear m K c;have c:=b;clear b
  (try go_frame)
  refine hp 14 ?_;refine wpAnyH_done (by kernel_rfl) ?_ _;clear c
  (try go_wp2_with fail)
  (try simp only[Exit.inBlock,Exit.then]);refine bodyPost_ret (aU rfl _ _ Bo.range rfl underlying84 rfl dE) rfl ⟨s,t,bl,nk,kb,q,nb,(.slice F (v.sealed.length+1) H),Q.out,c7.out,c1.out,c3.out,el.out,em.out,eg.out,by rw[HR.out];rfl,bk.out⟩
 ·refine dm 54 61 1 _ (aD.cells ⟨aE v g s,t⟩) (.agg (aD.cells ⟨Rec.zero,⟨#[]⟩⟩).toArray) 9 96 underlying54 fg (by omega) (by omega) rfl (by kernel_rfl) ?_
  intro g8 w8 l8 B8 e8 z8;have J:Below wl.heap.size wl w8:=e8.mono l8;have cz:=hid B8;have a2:=hid (bm.below J bm.lt);have cx:=hid (bv.below J bv.lt);have p:=hid (c9.below J);clear B8 e8 z8 J l8;refine m.out _ _ (a2.range) (fun b=> ?_);clear m K c;have c:=b;clear b
  (try go_frame)
  refine wpAnyH_ready (rs:=[4]) (by kernel_rfl) (by simp) ?_;refine AllReadyH.cons rfl (fun K m=> ?_) AllReadyH.nil;have c4:w8.cell? ⟨i.vb,4,none⟩=some i.sv:=p.at'.vol.cell (i:=4) rfl;go_simp;clear c4;refine m.out _ _ (a2.range) (fun b=> ?_);clear m K c;have c:=b;clear b
  (try go_frame)
  refine wpAnyH_ready (rs:=[7]) (by kernel_rfl) (by simp) ?_;refine AllReadyH.cons rfl (fun K m=> ?_) AllReadyH.nil;refine cM _ _ 54 rfl i0 (.agg (aD.cells ⟨Rec.zero,⟨#[]⟩⟩).toArray) 96 underlying54 hi fr fs fv rfl (by decide) rfl p.at'.sealed ⟨g8,0,none⟩ 1 1 (aD.cells ⟨aE v g s,t⟩) rfl rfl (bI cz.out) (fE _) (by have:=o.sealed;show v.sealed.length+1≤maxLen;unfold maxLen;omega) (by have:=o.sealed;show(v.sealed.length+1)*96≤140737488355328;omega) (Nat.zero_le _) ?_;intro v' w9 D r u;have j:w8.grownBy w9 i.sv.ownBlock:=r;have C:dW w8 i.sv.ownBlock v'.ownBlock:=u;clear r u;have W:=hid (a2.grown j (fun e=>aA.out (by simp only[ap.foot,List.mem_append,Option.mem_toList,Option.mem_def];exact .inr (.inr (.inr e.symm)))));have a3:=hid (cx.grown j (fun e=>aq.out (by simp only[ap.foot,List.mem_append,Option.mem_toList,Option.mem_def];exact .inr (.inr (.inr e.symm)))));have A:=hid (p.at'.vol.grown j (fun e=>absurd (show 61=104 from(aN p.at'.sealed e.symm).eq p.at'.vol.ty) (by decide)));obtain⟨F,H,dt⟩:=az D;subst dt;have P:=hid D;have a7:=hid j;have a9:=hid C;clear D j C;refine m.out _ _ (W.range) (fun b=> ?_);clear m K c;have c:=b;clear b
  (try go_frame)
  refine hp 8 ?_;refine hp 9 ?_;have c4:=A.cell (i:=4) rfl;have f4:=A.free 4;refine wpAnyH_ready (rs:=[10]) (by kernel_rfl) (by simp) ?_;refine AllReadyH.cons rfl (fun K m=> ?_) AllReadyH.nil;go_simp;have N:=hid (W.set_other (a:=⟨i.vb,4,none⟩) (fun e=>aA.out (by rw[e];simp[ap.foot])) (.slice F (v.sealed.length+1) H));have y:=hid (a3.set_other (a:=⟨i.vb,4,none⟩) (fun e=>aq.out (by rw[e];simp[ap.foot])) (.slice F (v.sealed.length+1) H));refine m.out _ _ (N.range) (fun b=> ?_);clear m K c;have c:=b;clear b
  (try go_frame)
  refine wpAnyH_done (by kernel_rfl) ?_ _;clear c c4 f4;have z:=hid (p.trans (p.at'.own (key:=nk) (sv:=(.slice F (v.sealed.length+1) H)) (l:=v.sealed++[⟨aE v g s,t⟩]) ((af.of_grown a7.out (fun k Z=>by simp[Z])).setCell (.inl (by simp)) 4 (.slice F (v.sealed.length+1) H)) (A.set 4 (.slice F (v.sealed.length+1) H)) (by rw[List.length_append,jS];exact ay P.out ((af.refl [i.vb] w9).setCell (.inl (by simp)) 4 (.slice F (v.sealed.length+1) H)) (fun k Z=>(aN P.out Z).notin (bQ.one A.ty) (by decide))) (fun k Z=>a9.elim (fun e=> .inl (by rw[←e];exact Z)) (fun f=> .inr (f k Z)))));obtain⟨E,B⟩:∃E,E=w9.setCell ⟨i.vb,4,none⟩ (.slice F (v.sealed.length+1) H):=⟨_,rfl⟩;rw[←B]at z y;rw[←B];clear B A P a7 a9 W a3 N;go_upto_region 17 with fail;have fn:IntKind.i64.wrap (v.sealed.length:Int)=(v.sealed.length:Int):=IntWalk.i64_in _ (by have:=o.sealed;omega);have fo:IntKind.i64.wrap ((v.sealed.length:Int)+1-1)=(v.sealed.length:Int):=by rw[IntWalk.i64_in _ (by have:=o.sealed;omega)];omega
  refine wp_region_held_drew (S:=fun wx=>wx.cell? ⟨i.vb,4,none⟩=some (.slice F (v.sealed.length+1) H)) (by kernel_rfl) (z.at'.vol.drew.cell (i:=4) rfl) (fun c=> ?_);obtain⟨wm,M⟩:∃wm,wm=E.drew:=⟨_,rfl⟩;have X:Below E.heap.size E wm:=by rw[M];exact(Below.refl _ _).drew
  have be:=hid (z.below X);have a5:=hid (y.below X y.lt);rw[←M];rw[←M]at c;clear M X;refine hp 0 ?_;refine hp 1 ?_;refine hp 2 ?_;refine hp 3 ?_;refine hp 4 ?_;refine hp 5 ?_;refine hp 6 ?_;refine hp 7 ?_;refine hp 8 ?_;refine hp 9 ?_;refine wpAnyH_ready (rs:=[10]) (by kernel_rfl) (by simp) ?_;refine AllReadyH.cons rfl (fun K m=> ?_) AllReadyH.nil;go_simp
  refine(wI (.slice F (v.sealed.length+1) H) (v.sealed++[⟨aE v g s,t⟩]) (v.sealed.length:Int) _ (dG.own (n:=v.sealed.length+1) (by have h9:=be.at'.sealed;simp only[List.length_append,List.length_cons,List.length_nil,Nat.zero_add]at h9;exact h9) (by simp)) (by rw[List.length_append];have:=o.sealed;show v.sealed.length+1≤1048576;omega) bd.out).mono ?_
  rintro e wn ⟨he,Y⟩;unfold qU at he;obtain⟨R,hR⟩:∃R,ic (v.sealed++[⟨aE v g s,t⟩]) (v.sealed.length:Int)=R:=⟨_,rfl⟩;rw[hR]at he;subst he;have HR:=hid hR;have V:=hid (be.below Y);have a6:=hid (a5.below Y a5.lt);clear Y hR
  (try go_wp2_with fail)
  refine m.out _ _ (V.at'.vol.cell (i:=4) rfl) (fun b=> ?_);clear m K c;have c:=b;clear b
  (try go_frame)
  refine hp 11 ?_;refine hp 12 ?_;refine wpAnyH_ready (rs:=[13]) (by kernel_rfl) (by simp) ?_;refine AllReadyH.cons rfl (fun K m=> ?_) AllReadyH.nil;refine kj 84 (.tmp 2) (.tmp 123) b2 bJ.zero.cells R.1.cells 84 a6.out rfl dE (bJ.cells_one _) rfl rfl rfl ?_;intro wo Bo oo;have bk:=hid (V.away (oo.turned (by simp)) (V.at'.notype a6.ty (by decide)) bw.out);refine m.out _ _ (bk.at'.vol.cell (i:=4) rfl) (fun b=> ?_);clear m K c;have c:=b;clear b
  (try go_frame)
  refine hp 14 ?_;refine wpAnyH_done (by kernel_rfl) ?_ _;clear c
  (try go_wp2_with fail)
  (try simp only[Exit.inBlock,Exit.then]);refine bodyPost_ret (aU rfl _ _ Bo.range rfl underlying84 rfl dE) rfl ⟨s,t,bl,nk,kb,q,nb,(.slice F (v.sealed.length+1) H),Q.out,c7.out,c1.out,c3.out,el.out,em.out,eg.out,by rw[HR.out];rfl,bk.out⟩
theorem qb (o f g c N m:Nat) (t:TypeId) (d:am) (w:World) (h:aC w f d) (j:ac w g [.func (.func 100) #[.pointer (some ⟨f,0,none⟩)] #[]] t) (H:w.cell? ⟨o,1,none⟩=some (.pointer (some ⟨f,0,none⟩))) (y:o<w.heap.size)
  (hn:∀x,x=g∨x=o→x∉d.foot f)
  (u:Calm d N m) (I:m+0≤4096) (G:N≤1024):
  Calls prog 96 #[.pointer (some ⟨o,0,none⟩), .slice (some ⟨g,0,none⟩) 1 c] w fun e Q=>e= .returned (.int .i64 0)∧∃d',d'=({d with cs:=d.cs}:am).flushed∧bg w Q f d d':=by
 have K:=hid h;have O:=hid j;have L:=hid H;have F:=hid hn;have p:=hid u;have q:=hid (And.intro I G);have B:=hid y;clear h j H hn u I G y;go_enter func96,ntmps96;go_wp2_with fail;go_loopw [10] (fun v wr=>∃(k:Nat) (d':am),k≤1∧v= .int .i64 k∧((k=0→d'=d)∧(k=1→d'=({d with cs:=d.cs}:am).flushed))∧Calm d' N (m+0)∧(k=0→Calm d' N m)∧bg w wr f d d') (fun v _=>1-(intOf v).toNat)
 case atStart=>exact⟨0,d,by omega,rfl,⟨fun _=>rfl,fun h=>(by cases h)⟩,p.mono (by omega),fun _=>p.out,bg.refl K.out⟩
 case round=>
  obtain⟨k,d',E,rfl,a,s,r,A⟩:=hrel;have n:=hid A;have l:=hid a;have b:=hid s;have J:=hid r;clear A a s r;have C:=hid (n.turned.blk O.out (F.out g (by simp)));have M:=hid (show wr.cell? ⟨o,1,none⟩=some (.pointer (some ⟨f,0,none⟩)) by rw[n.turned.cell B.out (F.out o (by simp))];exact L.out)
  match k,E with
  |0,E=>
   have R:=C.cell (i:=0) rfl;go_wp2_with fail;obtain rfl:d'=d:=l.out.1 (by trivial)
   refine(iC f _ _ n.at' b.up b.left (by have:=b.few;have:=q.out.1;omega) (by have:=b.len;have:=q.out.2;omega) b.hin).mono ?_
   rintro e S ⟨rfl,z⟩;have D:=hid z;clear z;go_wp2_with fail;go_roundw
   case rel=>exact⟨1,_,by omega,rfl,⟨fun h=>(by cases h),fun _=>rfl⟩,b.flushed.mono (Nat.zero_le _),fun h=>(by cases h),n.trans D.out⟩
   case measure=>simp[intOf]
  |1,E=>
   go_wp2_with fail;go_ret
   first
    |exact⟨rfl,d',l.out.2 (by trivial),n.out⟩
    |(have P:=l.out.2 (by trivial);subst P;first|exact⟨rfl,n.out⟩|exact⟨rfl,by have z:=n.out;simp only[List.append_assoc,List.cons_append,List.nil_append]at z;exact z⟩)
theorem Bz (i:ap) (v:ai) (w:World) (h:al w i v) (s:bp v):
  Calls prog 111 #[.pointer (some ⟨i.jb,0,none⟩)] w fun e t=>e= .returned (.int .i64 0)∧aJ w t i v i {v with d:=v.d.flushed}:=by
 have y:∀(q:Fn) (first j:Array Value) (w:World),(Instr.makeFunc q first j).run prog w= .ok (.func q first j) w:=fun _ _ _ _=>rfl
 have f:=hid s;have b:=hid (aJ.refl h);clear s h;go_enter func111,ntmps111;go_wp2_with fail
 refine(ix i v _ b.at').mono ?_
 rintro e t ⟨rfl,rfl⟩;have z:=b.at'.jour.cell (i:=1) rfl;go_wp2_with fail;obtain⟨wf,c⟩:∃wf,wf=w.alloc (Obj.cells #[.func (.func 100) #[.pointer (some ⟨i.db,0,none⟩)] #[]] 42):=⟨_,rfl⟩;rw[←c];have k:Below w.heap.size w wf:=by rw[c];exact(Below.refl _ _).alloc (Nat.le_refl _) _
 have g:=hid (show ac wf w.heap.size [.func (.func 100) #[.pointer (some ⟨i.db,0,none⟩)] #[]] 42 from by rw[c];exact ac.new w _ _);have a:=hid (b.below k);have m:=hid (fun x (p:x∈v.d.foot i.db)=>b.at'.disk.lt x p);clear c k
 refine(qb i.jb i.db w.heap.size 1 v.last.geo.blocks.toNat v.used.toNat 42 v.d _ a.at'.disk g.out (a.at'.jour.cell (i:=1) rfl) a.at'.jour.lt (by
  intro x p r;have u:=m.out x r
  rcases p with rfl|rfl
  ·omega
  ·exact(a.at'.jour.ty.notin a.at'.disk.tyIn (by decide)) r) f.calm (by have:=f.few;omega) f.blocks).mono ?_
 rintro e B ⟨rfl,A,o,l⟩;subst o;have n:=hid (a.trans (a.at'.disk_to l));clear l;go_wp2_with fail;go_ret;exact⟨rfl,n.out⟩
theorem DI (i:ap) (v:ai) (k:Int) (a:ByteArray) (w:World) (h:al w i v) (G:bp v) (hb:a.size=4096) (N:0≤k) (O:k<v.last.tail):
  Calls prog 197 #[.pointer (some ⟨i.jb,0,none⟩), .int .i64 k, .string a] w fun e Q=>e= .returned (.int .i64 0)∧∃cv,aJ w Q i v i {v with d:={v.d with cv:=cv,cs:=v.d.cs++[(4+k,a)]}}:=by
 have U:(a.size:Int)=4096:=by omega
 have V:¬k<0:=by omega
 have u:=hid (show 0≤k∧k<v.last.geo.blocks-4 from⟨N,by have:=G.sup.t1;omega⟩);obtain⟨tl,n⟩:∃tl,v.last.tail=tl:=⟨_,rfl⟩;have W:¬tl≤k:=by omega
 have S:=hid n;have c:=hid G;have R:=hid hb;have j:=hid (aJ.refl h);have T:w.cell? ⟨i.jb,3,none⟩=some (.int .i64 tl):=by rw[←n];exact h.jour.cell (i:=3) rfl
 clear G h hb N O n;go_enter func197,ntmps197;go_wp2_with fail
 refine(ix i v _ j.at').mono ?_
 rintro e Q ⟨rfl,rfl⟩;go_wp2_with fail;clear T
 refine(iU i.jb i.db _ v.last k _ j.at'.jour c.sup.geo u.out.1 u.out.2).mono ?_
 rintro e w2 ⟨rfl,s⟩;have r:=hid (j.below s);clear s;go_wp2_with fail
 refine(fZ i.jb (4+k) a _).mono ?_
 rintro e o ⟨⟨H,I,J,rfl,bA,K,L,M⟩,l⟩;have C:=hid (r.below l);have A:=hid bA;have z:=hid (fun x (F:x∈v.d.foot i.db)=>r.at'.disk.lt x F);have y:=hid (And.intro K (And.intro L M));have B:=hid l.size;clear l bA K L M;go_wp2_with fail;obtain⟨w4,f⟩:∃w4,w4=o.alloc (Obj.cells #[.func (.func 187) #[] #[.pointer (some ⟨H,0,none⟩), .pointer (some ⟨I,0,none⟩), .pointer (some ⟨J,0,none⟩)]] 42):=⟨_,rfl⟩;rw[←f];have m:Below o.heap.size o w4:=by rw[f];exact(Below.refl _ _).alloc (Nat.le_refl _) _
 have g:ac w4 o.heap.size [.func (.func 187) #[] #[.pointer (some ⟨H,0,none⟩), .pointer (some ⟨I,0,none⟩), .pointer (some ⟨J,0,none⟩)]] 42:=by rw[f];exact ac.new o _ _
 have p:=hid g;have b:=hid (C.below m);have q:=hid (A.below m);clear g m f
 refine(pL i.jb i.db o.heap.size 1 v.last.geo.blocks.toNat v.used.toNat H I J (4+k) a 42 v.d _ b.at'.disk p.out (b.at'.jour.cell (i:=1) rfl) b.at'.jour.lt q.out (by
  intro x F P;have X:=z.out x P;have O:=y.out;have Z:=B.out
  rcases F with rfl|rfl|rfl|rfl|rfl
  ·omega
  ·exact(b.at'.jour.ty.notin b.at'.disk.tyIn (by decide)) P
  ·omega
  ·omega
  ·omega) c.calm (by have:=c.few;omega) c.blocks ⟨by have:=u.out.1;omega,by have:=u.out.2;omega⟩ R.out).mono ?_
 rintro e w5 ⟨rfl,Y,⟨cv,E⟩,t⟩;subst E;have D:=hid (b.trans (b.at'.disk_to t));clear t;go_wp2_with fail;go_ret;exact⟨rfl,cv,D.out⟩
def dz (v:ai) (t:Int):aF:=⟨v.last.gen+1,v.used,v.last.epoch,t,v.last.geo⟩
def od (v:ai) (t:Int) (q:ByteArray):am:=({v.d.flushed with cs:=v.d.flushed.cs++[((dz v t).gen % 2,q)]}:am).flushed
theorem bp.com {v:ai} (a:bp v) {t:Int} (g:v.last.clock≤t) (c:t≤1099511627776) (h:v.last.gen≠1152921504606846976):eL (dz v t):=by
 have e:=a.sup.g0;have f:=a.sup.g1;have d:=a.sup.c0;have b:=a.sup.e0;have i:=a.u0;exact⟨a.sup.geo,by show 1≤v.last.gen+1;omega,by show v.last.gen+1≤1152921504606846976;omega,a.u0,a.u1,b,a.sup.e1,by show 0≤t;omega,c⟩
theorem wK (i:ap) (v:ai) (t:Int) (w:World) (h:al w i v) (T:bp v) (O:v.last.clock≤t) (P:t≤1099511627776) (S:v.last.gen≠1152921504606846976):
  Calls prog 40 #[.pointer (some ⟨i.jb,0,none⟩), .int .i64 t] w fun e U=>e= .returned (.int .i64 0)∧∃q,ah q (cG (dz v t))∧aJ w U i v i {v with last:=dz v t,d:=od v t q}:=by
 have a3:∀(Y:Fn) (first A:Array Value) (w:World),(Instr.makeFunc Y first A).run prog w= .ok (.func Y first A) w:=fun _ _ _ _=>rfl
 have I:=hid (T.com O P S);have z:=hid (And.intro O P);have HG:=hid S;have b:=hid T;have k:=hid (aJ.refl h);clear T h O P S;go_enter func40,ntmps40;go_wp2_with fail
 refine(ix i v _ k.at').mono ?_
 rintro e U ⟨rfl,rfl⟩;go_wp2_with fail
 refine(tW i v t _ k.at' b.out HG.out).mono ?_
 rintro e w1 ⟨rfl,l⟩;have G:=hid l;have K:=hid (k.below l);clear l
 go_upto_region 5 with(first
  |((with_reducible refine ab 163 _ cX (some 6) ?hgd ?ho ?hd ?_);(case hgd|ho|hd=>rfl);(intro N w3 F V X z6))
  |((with_reducible refine aa 163 (.tmp 6) (.tmp 18) N aF.zero.cells ((dz v t).cells) 163 V rfl aQ (cJ _) ?hgd ?ho ?hx ?hy ?_);(case hgd|ho|hx|hy=>rfl);(intro o W o8))
  |fail)
 have p:=hid (show Below w1.heap.size w1 o from o8.below (X.mono F) F);have a0:=hid (show w.heap.size≤N from Nat.le_trans G.size F);have g:=hid (K.below p.out);have u:=hid W;clear V X z6 F o8 W;go_wp2_with fail
 refine(tV i v t _ g.at' z.out.1 z.out.2).mono ?_
 rintro e U ⟨rfl,rfl⟩;have c1:=g.at'.jour.cell (i:=1) rfl;go_wp2_with fail;clear c1;obtain⟨wf,j⟩:∃wf,wf=o.alloc (Obj.cells #[.func (.func 100) #[.pointer (some ⟨i.db,0,none⟩)] #[]] 42):=⟨_,rfl⟩;rw[←j];have m:Below o.heap.size o wf:=by rw[j];exact(Below.refl _ _).alloc (Nat.le_refl _) _
 have r:=hid (show ac wf o.heap.size [.func (.func 100) #[.pointer (some ⟨i.db,0,none⟩)] #[]] 42 from by rw[j];exact ac.new o _ _);have a:=hid (g.below m);have H:=hid (fun x (hx:x∈v.d.foot i.db)=>g.at'.disk.lt x hx);have y:=hid (u.below m u.lt);clear j m
 refine(qb i.jb i.db o.heap.size 1 v.last.geo.blocks.toNat v.used.toNat 42 v.d _ a.at'.disk r.out (a.at'.jour.cell (i:=1) rfl) a.at'.jour.lt (by
  intro x hx Z;have a2:=H.out x Z
  rcases hx with rfl|rfl
  ·omega
  ·exact(a.at'.jour.ty.notin a.at'.disk.tyIn (by decide)) Z) b.calm (by have:=b.few;omega) b.blocks).mono ?_
 rintro e wg ⟨rfl,d',Q,n⟩;subst Q;have f:=hid (a.trans (a.at'.disk_to n));have J:=hid (n.turned.blk y.out (y.ty.notin a.at'.disk.tyIn (by decide)));clear n
 go_wp2_with (first
  |((with_reducible refine aj 163 (.tmp 6) N (dz v t).cells 163 _ J.out underlying163 rfl aQ ?hgd ?ho ?hx ?_);(case hgd|ho|hx=>rfl))
  |fail)
 have c:=hid b.calm.flushed
 refine(mK i.jb i.db (.pointer (some ⟨i.sb,0,none⟩)) v.d.flushed v.last (dz v t) _ f.at'.disk f.at'.jour (f.at'.jour.ty.notin f.at'.disk.tyIn (by decide)) I.out c.up c.left (by have:=c.few;omega) (by rw[c.len];exact b.blocks) (by rw[c.len];have:=b.sup.geo.b0;omega) c.hin).mono ?_
 rintro e w5 ⟨rfl,d3,q,R,tq,B,D,E,C⟩;subst R;have L:=hid (f.trans (f.at'.jdisk (s:=dz v t) E rfl B D C));have M:=hid tq;clear tq B D E C;go_wp2_with fail;go_ret;exact⟨rfl,q,M.out,L.out⟩
end Go.Proofs.YtadooplpfhdhcaaGreat
