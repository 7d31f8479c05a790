/- What is told of a place of any closed epoch (chapter 26): vol.Told. What is told of a place is what is proved (chapters 16, 17 and 26), in plain words. No program in sight. -/
import Derived.Test.YtadooplpfhdhcaaGreatQ36
import Derived.Test.YtadooplpfhdhcaaGreatQ31
import Derived.Test.YtadooplpfhdhcaaGreatQ28
import Derived.Test.YtadooplpfhdhcaaGreatQ26
import Derived.Test.YtadooplpfhdhcaaGreatQ23
import Derived.Test.YtadooplpfhdhcaaGreatQ7
import Derived.Test.YtadooplpfhdhcaaGreatQ33
import Derived.Test.YtadooplpfhdhcaaGreatQ30
import Derived.Test.YtadooplpfhdhcaaGreatQ34
set_option linter.unusedSimpArgs false
set_option linter.unusedVariables false
set_option maxRecDepth 100000
set_option maxHeartbeats 4000000
namespace Go.Proofs.YtadooplpfhdhcaaGreat
open Go Go.RowKit Go.Maps Go.WideMaps
open Go.Lib (hid)
open Go.Proofs.Tryz
def cq (ep lba:Int) (g:Bool) (pl:List Value) (slot:Int) (c:ByteArray):List Value:=[.int .i64 ep, .int .i64 lba, .bool g]++pl++[.int .i64 slot, .string c]
def jB:List Value:=bj false 0 ap.none ap.none N0 N0
theorem mR (w:World):(zeroValue 70).run prog w= .ok (.agg (cq 0 0 false jB 0 ⟨#[]⟩).toArray) w:=by kernel_rfl
theorem da {a b:Int} {g:Bool} {f:Bool} {n:Int} {h k:ap} {u v:Value} {s:Int} {c:ByteArray}:(prog.info? 70).map (·.size)=some (cq a b g (bj f n h k u v) s c).length:=by kernel_rfl
theorem jM {a b:Int} {g:Bool} {f:Bool} {n:Int} {h k:ap} {u v:Value} {s:Int} {c:ByteArray} (hu:u.oneCell'=true) (e:v.oneCell'=true):∀x∈cq a b g (bj f n h k u v) s c,x.oneCell'=true:=by
 intro x d;simp only[cq,bj,List.cons_append,List.nil_append,List.mem_cons,List.mem_nil_iff,or_false]at d
 rcases d with rfl|rfl|rfl|rfl|rfl|rfl|rfl|rfl|rfl|rfl|rfl|rfl|rfl<;>first|rfl|assumption
theorem Fp (a b:Int):prog.built 70 [(0, .agg #[.int .i64 a, .int .i64 b]),(1, .bool true)]=some (cq a b true jB 0 ⟨#[]⟩).toArray:=by kernel_rfl
theorem Fq (a b:Int) (f:Bool) (n:Int) (h k:ap) (p q:Option Addr) (x y z t:Nat):prog.built 70 [(0, .agg #[.int .i64 a, .int .i64 b]),(2, .agg (bj f n h k (.slice p x y) (.slice q z t)).toArray)]=some (cq a b false (bj f n h k (.slice p x y) (.slice q z t)) 0 ⟨#[]⟩).toArray:=by kernel_rfl
structure kZ (w:World) (i:ar) (v:ak) (b3 b4:Nat) (ep lba:Int) (wx:World):Prop where
 vol:am wx i v
 ask:ac wx b3 [.int .i64 ep, .int .i64 lba] 63
 res:ac wx b4 (cq 0 0 false jB 0 ⟨#[]⟩) 70
 bel:Below w.heap.size w wx
 lo:w.heap.size≤b4
theorem kZ.below {w:World} {i:ar} {v:ak} {b c:Nat} {ep lba:Int} {a wy:World} (h:kZ w i v b c ep lba a) (hb:Below a.heap.size a wy):kZ w i v b c ep lba wy:=
 ⟨h.vol.below hb,h.ask.below hb h.ask.lt,h.res.below hb h.res.lt,h.bel.trans (hb.mono h.bel.size),h.lo⟩
theorem AZ {a b:Int}:(prog.info? 63).map (·.size)=some ([.int .i64 a, .int .i64 b]:List Value).length:=by kernel_rfl
structure iK (w:World) (i:ar) (v:ak) (b3 b4:Nat) (ep lba:Int) (b11:Nat) (L:List Value) (wx:World):Prop where
 told:kZ w i v b3 b4 ep lba wx
 out:ac wx b11 L 70
 ne:b4≠b11
 lo:w.heap.size≤b11
 n3:b3≠b11
 nf:b11∉i.foot v.d
theorem iK.below {w:World} {i:ar} {v:ak} {c d:Nat} {ep lba:Int} {a:Nat} {L:List Value} {b wy:World} (h:iK w i v c d ep lba a L b) (hb:Below b.heap.size b wy):iK w i v c d ep lba a L wy:=
 ⟨h.told.below hb,h.out.below hb h.out.lt,h.ne,h.lo,h.n3,h.nf⟩
theorem kZ.held3 {w:World} {i:ar} {v:ak} {b e:Nat} {ep lba:Int} {d a:World} (h:kZ w i v b e ep lba d) (hb:Below d.heap.size d a):a.cell? ⟨i.vb,3,none⟩=some (.pointer (some ⟨i.xb,0,none⟩))∧a.cell? ⟨b,0,none⟩=some (.int .i64 ep)∧a.cell? ⟨b,1,none⟩=some (.int .i64 lba):=
 have c:=h.below hb
 ⟨c.vol.vol.cell (i:=3) rfl,c.ask.cell (i:=0) rfl,c.ask.cell (i:=1) rfl⟩
theorem wM (i:ar) (v:ak) (b:ax) (ep lba:Int) (w:World) (h:am w i v) (J:bK v.U v.L v.G b) (R:0≤ep) (x:ep≤4294967295) (t:fu v lba=0) (s:dp v ep=0) (hg:b.gone ep=true):
  Calls prog 18 #[.pointer (some ⟨i.vb,0,none⟩), .agg #[.int .i64 ep, .int .i64 lba]] w fun e w'=>e= .returned (.tuple #[.agg (cq ep lba true jB 0 ⟨#[]⟩).toArray, .int .i64 0])∧Below w.heap.size w w':=by
 have C:=hid J.g;have p:=hid (fun(j:World) (hx:am j i v)=>j4 i v lba j hx);have o:=hid (fun(j:World) (hx:am j i v)=>ip i v ep j hx);rw[t]at p;rw[s]at o;have N:=hid h;have O:=hid hg;clear h J t s hg;go_enter func18,ntmps18
 go_wp2_with (first
  |((with_reducible refine ae 63 (.tmp 1) [.int .i64 ep, .int .i64 lba] (some 3) ?hgd ?ho ?hd ?hx ?_);(case hgd|ho|hd|hx=>rfl);(intro u X z F x B))
  |((with_reducible refine ab 70 _ mR (some 4) ?hgd ?ho ?hd ?_);(case hgd|ho|hd=>rfl);(intro D w2 A H E W))
  |fail)
 have m:Below w.heap.size w w2:=(x.mono z).trans (E.mono (Nat.le_trans z (Nat.le_trans (Nat.le_of_lt B) A)));have d:=hid (show kZ w i v u D ep lba w2 from⟨N.below m,F.below E (Nat.lt_of_lt_of_le B A),H,m,Nat.le_trans z (Nat.le_trans (Nat.le_of_lt B) A)⟩);clear F H x E z A B W m
 refine(aQ i v _ d.vol).mono ?_
 rintro e w' ⟨rfl,rfl⟩;have Q:=d.ask.cell (i:=1) rfl;go_wp2_with fail
 refine(p.out _ d.vol).mono ?_
 rintro e Y ⟨rfl,q⟩;have k:=hid (d.below q);clear Q q;have P:=k.ask.cell (i:=0) rfl;go_wp2_with fail
 refine(o.out _ k.vol).mono ?_
 rintro e T ⟨rfl,r⟩;have l:=hid (k.below r);clear P r;go_upto_region 8 with fail;refine hb (fun j=>j.cell? ⟨i.vb,5,none⟩=some (.pointer (some ⟨i.bb,0,none⟩))∧j.cell? ⟨u,0,none⟩=some (.int .i64 ep)) ⟨l.vol.vol.drew.cell (i:=5) rfl,l.ask.drew.cell (i:=0) rfl⟩ fun a=> ?_
 obtain⟨V,f⟩:∃y,y=T.drew:=⟨_,rfl⟩;have c:=hid (show kZ w i v u D ep lba V from by rw[f];exact l.below (Below.refl _ _).drew);rw[←f];rw[←f]at a;clear f;refine hp 0 ?_;refine hp 1 ?_;refine hp 2 ?_;refine hp 3 ?_;refine hp 4 ?_;refine hp 5 ?_;refine hc 6 fun K I=> ?_
 go_simp
 refine(jr i.bb i.c2 i.m1 i.m2 i.m3 v.n v.first v.epoch ep v.U v.L v.G (b.gone ep) _ c.vol.book c.vol.maps R x (C.out _)).mono ?_
 rintro e w' ⟨rfl,rfl⟩;rw[O.out]
 (try go_wp2_with fail)
 refine I.out _ _ ⟨c.vol.vol.cell (i:=5) rfl,c.ask.cell (i:=0) rfl⟩ fun _=> ?_
 clear I K a;rename_i a
 (try go_frame)
 refine hd ?_;clear a
 go_wp2_with (first
  |((with_reducible refine ag 63 (.tmp 3) u 0 [.int .i64 ep, .int .i64 lba] _ (some 41) (c.out.ask.range) underlying63 rfl AZ ?hg ?ho ?hds ?hx ?_);(case ho|hg|hds|hx=>rfl))
  |((with_reducible refine av 70 ?parts (cq ep lba true jB 0 ⟨#[]⟩) ?hg ?ho ?hf ?_);(case hg|ho=>rfl);(case hf=>exact Fp _ _))
  |((with_reducible refine aa 70 (.tmp 4) (.tmp 42) D (cq 0 0 false jB 0 ⟨#[]⟩) (cq ep lba true jB 0 ⟨#[]⟩) 70 c.out.res rfl da (jM rfl rfl) ?hgd ?ho ?hx ?hy ?_);(case hgd|ho|hx|hy=>rfl);(intro Z M S))
  |fail)
 (try simp only[Exit.inBlock,Exit.then]);refine bodyPost_ret (aE rfl _ _ M.range rfl underlying70 rfl da) rfl ⟨rfl,S.below c.bel c.lo⟩
structure Jz (v:ak) (ep lba:Int) (m:Nat) (T:Option aw):Prop where
 none:T=none→mQ v.vers lba ep m=none
 some:∀c,T=some c→∃(x:af) (k:Nat),mQ v.vers lba ep m=some x∧x.slot=(k:Int)∧(k:Int)<v.used∧iq v k c
def pS (T:Option aw):Int:=match T with|some c=>c.slot|none=>0
def A0 (T:Option aw):ByteArray:=match T with|some c=>c.cipher|none=>⟨#[]⟩
structure Ft (i:ar) (v:ak) (b3 b4 b11 b12:Nat):Prop where
 a:b3≠b12
 r:b4≠b12
 o:b11≠b12
 f:b12∉i.foot v.d
theorem iK.only {w:World} {i:ar} {v:ak} {e g:Nat} {ep lba:Int} {d b:Nat} {L:List Value} {k wy:World} {c:List Value} {t:TypeId} (h:iK w i v e g ep lba d L k) (o:cA b k wy) (hn:Ft i v e g d b) (j:w.heap.size≤b) (hb:ac k b c t):iK w i v e g ep lba d L wy:=
 ⟨⟨h.told.vol.away (o.turned (S:=[b]) (by simp)) (fun x m l=>hn.f (by simp at l;subst l;exact m)),o.blk h.told.ask hn.a,o.blk h.told.res hn.r,o.below h.told.bel j,h.told.lo⟩,o.blk h.out hn.o,h.ne,h.lo,h.n3,h.nf⟩
theorem iK.put {w:World} {i:ar} {v:ak} {c d:Nat} {ep lba:Int} {a:Nat} {L:List Value} {b:World} (h:iK w i v c d ep lba a L b) (k:Nat) (x:Value):iK w i v c d ep lba a (L.set k x) (b.setCell ⟨a,k,none⟩ x):=
 have o:cA a b (b.setCell ⟨a,k,none⟩ x):=(cA.refl a b).setCell k x
 ⟨⟨h.told.vol.away (o.turned (S:=[a]) (by simp)) (fun y hy e=>h.nf (by simp at e;subst e;exact hy)),o.blk h.told.ask h.n3,o.blk h.told.res h.ne,o.below h.told.bel h.lo,h.told.lo⟩,h.out.set k x,h.ne,h.lo,h.n3,h.nf⟩
theorem Fv (i:ar) (v:ak) (b:ax) (ep lba:Int) (cs:List aw) (m:Nat) (T:Option aw) (w:World) (h:am w i v) (ok:bC v) (hm:bK v.U v.L v.G b) (e0:0≤ep) (e1:ep≤4294967295) (e3:fu v lba=0) (ey:dp v ep=0) (hg:b.gone ep=false)
  (l0:0≤lba) (l1:lba≤4095) (f5:v.vers.length≤4095) (hE:uY v ep cs) (ca:∀(i j:Nat) (a d:af),v.vers[i]?=some a→v.vers[j]?=some d→i≤j→cV lba ep d→cV lba ep a) (eN:dM v.vers lba ep m) (hT:Jz v ep lba m T) (eD:(aC (cr ep cs) 4096).length≤4095):
  Calls prog 18 #[.pointer (some ⟨i.vb,0,none⟩), .agg #[.int .i64 ep, .int .i64 lba]] w fun e w'=>(∃u u2,e= .returned (.tuple #[.agg (cq ep lba false (bj (bA (aC (cr ep cs) 4096) lba).found (bA (aC (cr ep cs) 4096) lba).pos (bA (aC (cr ep cs) 4096) lba).here (bA (aC (cr ep cs) 4096) lba).ahead u u2) (pS T) (A0 T)).toArray, .int .i64 0])∧
   w'.ownsRow 0 9 1 u (bA (aC (cr ep cs) 4096) lba).up.length ((bA (aC (cr ep cs) 4096) lba).up.map .string)∧w'.ownsRow 0 9 1 u2 (bA (aC (cr ep cs) 4096) lba).left.length ((bA (aC (cr ep cs) 4096) lba).left.map .string))∧Below w.heap.size w w':=by
 have e4:cs.take cs.length=cs:=List.take_of_length_le (Nat.le_refl _);have h8:=(pI ep cs cs.length (Nat.le_refl _)).1;have h9:=j8 ep cs cs.length (Nat.le_refl _);rw[e4]at h8 h9;have fr:=hid (fun(C:World) (hx:am C i v)=>qi i v ep _ cs C hx ok e0 e1 rfl (by omega) hE.len hE.at');have eg:=hid (fun(C:World) (ps B:Nat) (hx:dR C ps B cs.length ep (j7 ep cs))=>y9 ps B cs.length ep lba _ _ C hx h8 h9 eD l0 l1);have cg:=hid (fun(C:World) (hx:am C i v)=>Im i.xb v.vers.length m i.xv v.vers lba ep C hx.index hx.vers rfl (by omega) ca eN);have eb:=hid (fun(C:World) (k:Nat) (c:aw) (hh:am C i v) (hk:(k:Int)<v.used) (hc:iq v k c)=>kU i v k (.cell c) C hh ok hk hc);have cm:=hid hT;obtain⟨P,hP⟩:∃P,bA (aC (cr ep cs) 4096) lba=P:=⟨_,rfl⟩;rw[hP]at eg;rw[hP];obtain⟨R,dT⟩:∃R,mQ v.vers lba ep m=R:=⟨_,rfl⟩;rw[dT]at cg;have ck:=hid dT;clear h8 h9 e4 hP hT dT ca eN hE ok f5 eD;have fn:=hid hm.g;have ef:=hid (fun(C:World) (hx:am C i v)=>j4 i v lba C hx);have d9:=hid (fun(C:World) (hx:am C i v)=>ip i v ep C hx);rw[e3]at ef;rw[ey]at d9;have H0:=hid h;have HG:=hid hg;clear h hm e3 ey hg;go_enter func18,ntmps18
 go_wp2_with (first
  |((with_reducible refine ae 63 (.tmp 1) [.int .i64 ep, .int .i64 lba] (some 3) ?hgd ?ho ?hd ?hx ?_);(case hgd|ho|hd|hx=>rfl);(intro b3 w1 l1 B1 e1 z1))
  |((with_reducible refine ab 70 _ mR (some 4) ?hgd ?ho ?hd ?_);(case hgd|ho|hd=>rfl);(intro b4 w2 l2 B2 e2 z2))
  |fail)
 have d0:Below w.heap.size w w2:=(e1.mono l1).trans (e2.mono (Nat.le_trans l1 (Nat.le_trans (Nat.le_of_lt z1) l2)));have cl:=hid (show kZ w i v b3 b4 ep lba w2 from⟨H0.below d0,B1.below e2 (Nat.lt_of_lt_of_le z1 l2),B2,d0,Nat.le_trans l1 (Nat.le_trans (Nat.le_of_lt z1) l2)⟩);clear B1 B2 e1 e2 l1 l2 z1 z2 d0
 refine(aQ i v _ cl.vol).mono ?_
 rintro e w' ⟨rfl,rfl⟩;have a1:=cl.ask.cell (i:=1) rfl;go_wp2_with fail
 refine(ef.out _ cl.vol).mono ?_
 rintro e w3 ⟨rfl,es⟩;have c8:=hid (cl.below es);clear a1 es;have a0:=c8.ask.cell (i:=0) rfl;go_wp2_with fail
 refine(d9.out _ c8.vol).mono ?_
 rintro e w4 ⟨rfl,et⟩;have db:=hid (c8.below et);clear a0 et;go_upto_region 8 with fail;refine hb (fun C=>C.cell? ⟨i.vb,5,none⟩=some (.pointer (some ⟨i.bb,0,none⟩))∧C.cell? ⟨b3,0,none⟩=some (.int .i64 ep)) ⟨db.vol.vol.drew.cell (i:=5) rfl,db.ask.drew.cell (i:=0) rfl⟩ fun f=> ?_
 obtain⟨wd,V⟩:∃y,y=w4.drew:=⟨_,rfl⟩;have a5:=hid (show kZ w i v b3 b4 ep lba wd from by rw[V];exact db.below (Below.refl _ _).drew);rw[←V];rw[←V]at f;clear V;refine hp 0 ?_;refine hp 1 ?_;refine hp 2 ?_;refine hp 3 ?_;refine hp 4 ?_;refine hp 5 ?_;refine hc 6 fun K A=> ?_
 go_simp
 refine(jr i.bb i.c2 i.m1 i.m2 i.m3 v.n v.first v.epoch ep v.U v.L v.G (b.gone ep) _ a5.vol.book a5.vol.maps e0 e1 (fn.out _)).mono ?_
 rintro e w' ⟨rfl,rfl⟩;rw[HG.out]
 (try go_wp2_with fail)
 refine A.out _ _ ⟨a5.vol.vol.cell (i:=5) rfl,a5.ask.cell (i:=0) rfl⟩ fun _=> ?_
 clear A K f;rename_i f
 (try go_frame)
 refine hd ?_;clear f;have a0:=a5.ask.cell (i:=0) rfl;go_wp2_with fail
 refine(fr.out _ a5.vol).mono ?_
 rintro e w6 ⟨⟨ps,B,rfl,hs⟩,ew⟩;have fo:=hid hs;have ei:=hid (a5.below ew);clear a0 ew hs;have a1:=ei.ask.cell (i:=1) rfl;go_wp2_with fail
 refine(eg.out _ ps B fo.out).mono ?_
 rintro e w7 ⟨⟨u,u2,rfl,hu,d4⟩,ex⟩;obtain⟨pu,Y,d3⟩:=aD hu;subst d3;obtain⟨pv,Z,d3⟩:=aD d4;subst d3;have a9:=hid (ei.below ex);have fs:=hid (ja hu);have fw:=hid (ja d4);clear a1 ex hu d4
 go_upto_region 15 with(first
  |((with_reducible refine ab 68 _ rT (some 9) ?hgd ?ho ?hd ?_);(case hgd|ho|hd=>rfl);(intro b9 wa la Ba ea za))
  |((with_reducible refine aa 68 (.tmp 9) (.tmp 59) b9 (bj false 0 ap.none ap.none N0 N0) (bj P.found P.pos P.here P.ahead (.slice pu P.up.length Y) (.slice pv P.left.length Z)) 68 Ba rfl dD (oP rfl rfl) ?hgd ?ho ?hx ?hy ?_);(case hgd|ho|hx|hy=>rfl);(intro wb Bb ob;have s:Below w7.heap.size w7 wb:=ob.below (ea.mono la) la;have ej:=hid (a9.out.below s)))
  |((with_reducible refine ag 63 (.tmp 3) b3 0 [.int .i64 ep, .int .i64 lba] _ (some 61) (ej.out.ask.range) underlying63 rfl AZ ?hg ?ho ?hds ?hx ?_);(case ho|hg|hds|hx=>rfl))
  |((with_reducible refine ag 68 (.tmp 9) b9 0 (bj P.found P.pos P.here P.ahead (.slice pu P.up.length Y) (.slice pv P.left.length Z)) _ (some 62) (Bb.range) underlying68 rfl dD ?hg ?ho ?hds ?hx ?_);(case ho|hg|hds|hx=>rfl))
  |((with_reducible refine av 70 ?parts (cq ep lba false (bj P.found P.pos P.here P.ahead (.slice pu P.up.length Y) (.slice pv P.left.length Z)) 0 ⟨#[]⟩) ?hg ?ho ?hf ?_);(case hg|ho=>rfl);(case hf=>(refine Eq.trans ?_ (Fq ep lba P.found P.pos P.here P.ahead pu pv P.up.length Y P.left.length Z);kernel_rfl)))
  |((with_reducible refine ab 70 _ mR (some 11) ?hgd ?ho ?hd ?_);(case hgd|ho|hd=>rfl);(intro o wc lc Bc ec zc))
  |((with_reducible refine aa 70 (.tmp 11) (.tmp 63) o (cq 0 0 false jB 0 ⟨#[]⟩) (cq ep lba false (bj P.found P.pos P.here P.ahead (.slice pu P.up.length Y) (.slice pv P.left.length Z)) 0 ⟨#[]⟩) 70 Bc rfl da (jM rfl rfl) ?hgd ?ho ?hx ?hy ?_);(case hgd|ho|hx|hy=>rfl);(intro w8 B8 o8))
  |fail)
 have co:Below w7.heap.size w7 w8:=s.trans ((o8.below (ec.mono lc) lc).mono s.size);have ee:=hid (show iK w i v b3 b4 ep lba o (cq ep lba false (bj P.found P.pos P.here P.ahead (.slice pu P.up.length Y) (.slice pv P.left.length Z)) 0 ⟨#[]⟩) w8 from⟨a9.below co,B8,by have:=a9.res.lt;have:=s.size;omega,by have:=a9.bel.size;have:=s.size;omega,by have:=a9.ask.lt;have:=s.size;omega,fun hh=>by have:=a9.vol.foot_lt _ hh;have:=s.size;omega⟩);have fv:=hid (own_below co fs.out);have fz:=hid (own_below co fw.out);clear Ba ea za la Bb ob s Bc ec zc lc B8 o8 co ej;obtain⟨x,qv,hx,d2⟩:∃(x:af) (q:Bool),fN R=x∧R.isSome=q:=⟨_,_,rfl,rfl⟩;rw[hx,d2]at cg;have bd:=hid (And.intro hx d2);clear hx d2;refine hb (fun C=>C.cell? ⟨i.vb,3,none⟩=some (.pointer (some ⟨i.xb,0,none⟩))∧C.cell? ⟨b3,0,none⟩=some (.int .i64 ep)∧C.cell? ⟨b3,1,none⟩=some (.int .i64 lba)) (ee.told.held3 (Below.refl _ _).drew) fun f=> ?_
 obtain⟨wd,V⟩:∃y,y=w8.drew:=⟨_,rfl⟩;have cw:Below w8.heap.size w8 wd:=by rw[V];exact(Below.refl _ _).drew
 have aq:=hid (ee.below cw);have el:=hid (own_below cw fv.out);have em:=hid (own_below cw fz.out);rw[←V];rw[←V]at f;clear V cw;refine hp 0 ?_;refine hp 1 ?_;refine hp 2 ?_;refine hp 3 ?_;refine hp 4 ?_;refine hp 5 ?_;refine hp 6 ?_;refine hp 7 ?_;refine hc2 8 12 (fun K A=> ?_) (fun K A=> ?_)
 ·go_simp
  refine(cg.out _ aq.told.vol).mono ?_
  rintro e wo ⟨rfl,J⟩;have z:=hid (aq.below J);have bt:=hid (own_below J el.out);have b1:=hid (own_below J em.out);clear J
  (try go_wp2_with fail)
  refine A.out _ _ (z.told.held3 (Below.refl _ _)) fun _=> ?_
  clear A K f;rename_i f
  (try go_frame)
  refine hp 9 ?_;refine hp 10 ?_;refine hp 11 ?_;refine hc 12 fun K A=> ?_
  refine qO 130 _ cd rfl ?_;intro O wq lq Bq eq zq;have S:Below wo.heap.size wo wq:=eq.mono lq;have M:=hid (z.below S);have bv:=hid (own_below S bt.out);have b2:=hid (own_below S b1.out);have F:=hid Bq;have bl:=hid (show w.heap.size≤O∧wo.heap.size≤O from⟨Nat.le_trans z.told.bel.size lq,lq⟩);have bm:=hid (show Ft i v b3 b4 o O from⟨by have:=z.told.ask.lt;omega,by have:=z.told.res.lt;omega,by have:=z.out.out.lt;omega,fun hh=>by have:=z.told.vol.foot_lt _ hh;omega⟩);clear S Bq eq zq lq
  (try go_wp2_with fail)
  refine A.out _ _ (M.told.held3 (Below.refl _ _)) fun _=> ?_
  clear A K f;rename_i f
  (try go_frame)
  refine hc 13 fun K A=> ?_
  refine iS 130 _ _ O (af.cells ⟨0,0,0⟩) x.cells 130 F.out rfl aF (bF _) rfl rfl rfl ?_;intro wz Bz oz;have r:=hid (M.only oz bm.out bl.out.1 F.out);have bw:=hid (aU bv.out oz F.out (by decide));have b5:=hid (aU b2.out oz F.out (by decide));have c4:=hid Bz;clear Bz oz
  (try go_wp2_with fail)
  refine A.out _ _ (r.told.held3 (Below.refl _ _)) fun _=> ?_
  clear A K f;rename_i f
  (try go_frame)
  refine hp 14 ?_;refine hd ?_;clear f
  cases T with
  |none=>
   have hR:R=none:=ck.symm.trans (cm.none rfl);have a6:qv=false:=by rw[←bd.out.2,hR];rfl
   subst a6
   go_wp2_with (first
     |((with_reducible refine ag 70 (.tmp 11) o 0 (cq ep lba false (bj P.found P.pos P.here P.ahead (.slice pu P.up.length Y) (.slice pv P.left.length Z)) 0 ⟨#[]⟩) _ (some 94) (r.out.out.range) underlying70 rfl da ?hg ?ho ?hds ?hx ?_);(case ho|hg|hds|hx=>rfl))
     |((with_reducible refine aa 70 (.tmp 4) (.tmp 94) b4 (cq 0 0 false jB 0 ⟨#[]⟩) (cq ep lba false (bj P.found P.pos P.here P.ahead (.slice pu P.up.length Y) (.slice pv P.left.length Z)) 0 ⟨#[]⟩) 70 r.out.told.res rfl da (jM rfl rfl) ?hgd ?ho ?hx ?hy ?_);(case hgd|ho|hx|hy=>rfl);(intro wy By oy))
     |fail)
   (try simp only[Exit.inBlock,Exit.then]);refine bodyPost_ret (aE rfl _ _ By.range rfl underlying70 rfl da) rfl ⟨⟨_,_,rfl,aU bw.out oy r.told.res (by decide),aU b5.out oy r.told.res (by decide)⟩,oy.below r.told.bel r.told.lo⟩
  |some c=>
   obtain⟨y,k,hy,cb,b8,b7⟩:=cm.some c rfl;have hR:R=some y:=ck.symm.trans hy;have a6:qv=true:=by rw[←bd.out.2,hR];rfl
   have d5:x=y:=by rw[←bd.out.1,hR];rfl
   subst a6 d5;have c6:=hid b8;have c5:=hid b7;obtain⟨xl,xe,xs⟩:=x;have cc:xs=(k:Int):=cb;subst cc;clear hy cb b8 b7 hR;have k2:=c4.cell (i:=2) rfl;go_wp2_with fail
   refine(eb.out _ k c r.told.vol c6.out c5.out).mono ?_
   rintro e cf ⟨rfl,E⟩;have an:=hid (r.below E);have bo:=hid (own_below E bw.out);have bx:=hid (own_below E b5.out);clear E k2
   dsimp only[gP.taken]
   go_upto_region 20 with(first
    |((with_reducible refine ab 134 _ zeroCell (some 14) ?hgd ?ho ?hd ?_);(case hgd|ho|hd=>rfl);(intro Q wa la Ba ea za))
    |((with_reducible refine aa 134 (.tmp 14) (.tmp 82) Q dL c.cells 134 Ba rfl bB (dj _) ?hgd ?ho ?hx ?hy ?_);(case hgd|ho|hx|hy=>rfl);(intro wb Bb ob))
    |fail)
   have s:Below cf.heap.size cf wb:=ob.below (ea.mono la) la;have c7:=hid (an.below s);have dc:=hid (own_below s bo.out);have dg:=hid (own_below s bx.out);have N:=hid Bb;have bn:=hid (show Q≠o by have:=an.out.out.lt;omega);clear Ba ea za la Bb ob s;refine hb (fun C=>C.cell? ⟨Q,1,none⟩=some (.int .i64 c.slot)∧C.cell? ⟨Q,4,none⟩=some (.string c.cipher)) ⟨N.drew.cell (i:=1) rfl,N.drew.cell (i:=4) rfl⟩ fun f=> ?_
   obtain⟨we,W⟩:∃y,y=wb.drew:=⟨_,rfl⟩;have I:Below wb.heap.size wb we:=by rw[W];exact(Below.refl _ _).drew
   have t:=hid (c7.below I);have bs:=hid (own_below I dc.out);have b0:=hid (own_below I dg.out);have bk:=hid (N.below I N.lt);rw[←W];rw[←W]at f;clear W I;refine hp 0 ?_;refine hp 1 ?_;refine hp 2 ?_;refine hp 3 ?_;refine hp 4 ?_;have c9:=t.out.out.cell (i:=11) rfl;have f9:=t.out.out.free 11;refine hc 5 fun K A=> ?_
   go_simp;have X:=(cA.refl o we).setCell 11 (.int .i64 c.slot);have p:=hid (show iK w i v b3 b4 ep lba o (cq ep lba false (bj P.found P.pos P.here P.ahead (.slice pu P.up.length Y) (.slice pv P.left.length Z)) c.slot ⟨#[]⟩) _ from t.put 11 (.int .i64 c.slot));have aA:=hid (aU bs.out X t.out.out (by decide));have a3:=hid (aU b0.out X t.out.out (by decide));have D:=hid (X.blk bk.out bn.out);clear c9 f9 X
   generalize we.setCell ⟨o,11,none⟩ (.int .i64 c.slot)=wf at p aA a3 D ⊢
   (try go_wp2_with fail)
   refine A.out _ _ ⟨D.cell (i:=1) rfl,D.cell (i:=4) rfl⟩ fun _=> ?_
   clear A K f;rename_i f
   (try go_frame)
   refine hp 6 ?_;have c9:=p.out.out.cell (i:=12) rfl;have f9:=p.out.out.free 12;refine hc 7 fun K A=> ?_
   go_simp;have X:=(cA.refl o wf).setCell 12 (.string c.cipher);have l:=hid (show iK w i v b3 b4 ep lba o (cq ep lba false (bj P.found P.pos P.here P.ahead (.slice pu P.up.length Y) (.slice pv P.left.length Z)) c.slot c.cipher) _ from p.put 12 (.string c.cipher));have a2:=hid (aU aA.out X p.out.out (by decide));have a4:=hid (aU a3.out X p.out.out (by decide));have H:=hid (X.blk D.out bn.out);clear c9 f9 X
   generalize wf.setCell ⟨o,12,none⟩ (.string c.cipher)=wg at l a2 a4 H ⊢
   (try go_wp2_with fail)
   refine A.out _ _ ⟨H.cell (i:=1) rfl,H.cell (i:=4) rfl⟩ fun _=> ?_
   clear A K f;rename_i f
   (try go_frame)
   refine hd ?_;clear f
   go_wp2_with (first
     |((with_reducible refine ag 70 (.tmp 11) o 0 (cq ep lba false (bj P.found P.pos P.here P.ahead (.slice pu P.up.length Y) (.slice pv P.left.length Z)) c.slot c.cipher) _ (some 94) (l.out.out.range) underlying70 rfl da ?hg ?ho ?hds ?hx ?_);(case ho|hg|hds|hx=>rfl))
     |((with_reducible refine aa 70 (.tmp 4) (.tmp 94) b4 (cq 0 0 false jB 0 ⟨#[]⟩) (cq ep lba false (bj P.found P.pos P.here P.ahead (.slice pu P.up.length Y) (.slice pv P.left.length Z)) c.slot c.cipher) 70 l.out.told.res rfl da (jM rfl rfl) ?hgd ?ho ?hx ?hy ?_);(case hgd|ho|hx|hy=>rfl);(intro wy By oy))
     |fail)
   (try simp only[Exit.inBlock,Exit.then]);refine bodyPost_ret (aE rfl _ _ By.range rfl underlying70 rfl da) rfl ⟨⟨_,_,rfl,aU a2.out oy l.told.res (by decide),aU a4.out oy l.told.res (by decide)⟩,oy.below l.told.bel l.told.lo⟩
 ·refine qO 130 _ cd rfl ?_
  intro O wq lq Bq eq zq;have S:Below wd.heap.size wd wq:=eq.mono lq;have M:=hid (aq.below S);have bv:=hid (own_below S el.out);have b2:=hid (own_below S em.out);have F:=hid Bq;have bl:=hid (show w.heap.size≤O∧wd.heap.size≤O from⟨Nat.le_trans aq.told.bel.size lq,lq⟩);have bm:=hid (show Ft i v b3 b4 o O from⟨by have:=aq.told.ask.lt;omega,by have:=aq.told.res.lt;omega,by have:=aq.out.out.lt;omega,fun hh=>by have:=aq.told.vol.foot_lt _ hh;omega⟩);clear S Bq eq zq lq
  (try go_wp2_with fail)
  refine A.out _ _ (M.told.held3 (Below.refl _ _)) fun _=> ?_
  clear A K f;rename_i f
  (try go_frame)
  refine hc 8 fun K A=> ?_
  go_simp
  refine(cg.out _ M.told.vol).mono ?_
  rintro e wo ⟨rfl,J⟩;have z:=hid (M.below J);have bt:=hid (own_below J bv.out);have b1:=hid (own_below J b2.out);have a8:=hid (F.below J F.lt);clear J
  (try go_wp2_with fail)
  refine A.out _ _ (z.told.held3 (Below.refl _ _)) fun _=> ?_
  clear A K f;rename_i f
  (try go_frame)
  refine hp 9 ?_;refine hp 10 ?_;refine hp 11 ?_;refine hc 13 fun K A=> ?_
  refine iS 130 _ _ O (af.cells ⟨0,0,0⟩) x.cells 130 a8.out rfl aF (bF _) rfl rfl rfl ?_;intro wz Bz oz;have r:=hid (z.only oz bm.out bl.out.1 a8.out);have bw:=hid (aU bt.out oz a8.out (by decide));have b5:=hid (aU b1.out oz a8.out (by decide));have c4:=hid Bz;clear Bz oz
  (try go_wp2_with fail)
  refine A.out _ _ (r.told.held3 (Below.refl _ _)) fun _=> ?_
  clear A K f;rename_i f
  (try go_frame)
  refine hp 14 ?_;refine hd ?_;clear f
  cases T with
  |none=>
   have hR:R=none:=ck.symm.trans (cm.none rfl);have a6:qv=false:=by rw[←bd.out.2,hR];rfl
   subst a6
   go_wp2_with (first
     |((with_reducible refine ag 70 (.tmp 11) o 0 (cq ep lba false (bj P.found P.pos P.here P.ahead (.slice pu P.up.length Y) (.slice pv P.left.length Z)) 0 ⟨#[]⟩) _ (some 94) (r.out.out.range) underlying70 rfl da ?hg ?ho ?hds ?hx ?_);(case ho|hg|hds|hx=>rfl))
     |((with_reducible refine aa 70 (.tmp 4) (.tmp 94) b4 (cq 0 0 false jB 0 ⟨#[]⟩) (cq ep lba false (bj P.found P.pos P.here P.ahead (.slice pu P.up.length Y) (.slice pv P.left.length Z)) 0 ⟨#[]⟩) 70 r.out.told.res rfl da (jM rfl rfl) ?hgd ?ho ?hx ?hy ?_);(case hgd|ho|hx|hy=>rfl);(intro wy By oy))
     |fail)
   (try simp only[Exit.inBlock,Exit.then]);refine bodyPost_ret (aE rfl _ _ By.range rfl underlying70 rfl da) rfl ⟨⟨_,_,rfl,aU bw.out oy r.told.res (by decide),aU b5.out oy r.told.res (by decide)⟩,oy.below r.told.bel r.told.lo⟩
  |some c=>
   obtain⟨y,k,hy,cb,b8,b7⟩:=cm.some c rfl;have hR:R=some y:=ck.symm.trans hy;have a6:qv=true:=by rw[←bd.out.2,hR];rfl
   have d5:x=y:=by rw[←bd.out.1,hR];rfl
   subst a6 d5;have c6:=hid b8;have c5:=hid b7;obtain⟨xl,xe,xs⟩:=x;have cc:xs=(k:Int):=cb;subst cc;clear hy cb b8 b7 hR;have k2:=c4.cell (i:=2) rfl;go_wp2_with fail
   refine(eb.out _ k c r.told.vol c6.out c5.out).mono ?_
   rintro e cf ⟨rfl,E⟩;have an:=hid (r.below E);have bo:=hid (own_below E bw.out);have bx:=hid (own_below E b5.out);clear E k2
   dsimp only[gP.taken]
   go_upto_region 20 with(first
    |((with_reducible refine ab 134 _ zeroCell (some 14) ?hgd ?ho ?hd ?_);(case hgd|ho|hd=>rfl);(intro Q wa la Ba ea za))
    |((with_reducible refine aa 134 (.tmp 14) (.tmp 82) Q dL c.cells 134 Ba rfl bB (dj _) ?hgd ?ho ?hx ?hy ?_);(case hgd|ho|hx|hy=>rfl);(intro wb Bb ob))
    |fail)
   have s:Below cf.heap.size cf wb:=ob.below (ea.mono la) la;have c7:=hid (an.below s);have dc:=hid (own_below s bo.out);have dg:=hid (own_below s bx.out);have N:=hid Bb;have bn:=hid (show Q≠o by have:=an.out.out.lt;omega);clear Ba ea za la Bb ob s;refine hb (fun C=>C.cell? ⟨Q,1,none⟩=some (.int .i64 c.slot)∧C.cell? ⟨Q,4,none⟩=some (.string c.cipher)) ⟨N.drew.cell (i:=1) rfl,N.drew.cell (i:=4) rfl⟩ fun f=> ?_
   obtain⟨we,W⟩:∃y,y=wb.drew:=⟨_,rfl⟩;have I:Below wb.heap.size wb we:=by rw[W];exact(Below.refl _ _).drew
   have t:=hid (c7.below I);have bs:=hid (own_below I dc.out);have b0:=hid (own_below I dg.out);have bk:=hid (N.below I N.lt);rw[←W];rw[←W]at f;clear W I;refine hp 0 ?_;refine hp 1 ?_;refine hp 2 ?_;refine hp 3 ?_;refine hp 4 ?_;have c9:=t.out.out.cell (i:=11) rfl;have f9:=t.out.out.free 11;refine hc 5 fun K A=> ?_
   go_simp;have X:=(cA.refl o we).setCell 11 (.int .i64 c.slot);have p:=hid (show iK w i v b3 b4 ep lba o (cq ep lba false (bj P.found P.pos P.here P.ahead (.slice pu P.up.length Y) (.slice pv P.left.length Z)) c.slot ⟨#[]⟩) _ from t.put 11 (.int .i64 c.slot));have aA:=hid (aU bs.out X t.out.out (by decide));have a3:=hid (aU b0.out X t.out.out (by decide));have D:=hid (X.blk bk.out bn.out);clear c9 f9 X
   generalize we.setCell ⟨o,11,none⟩ (.int .i64 c.slot)=wf at p aA a3 D ⊢
   (try go_wp2_with fail)
   refine A.out _ _ ⟨D.cell (i:=1) rfl,D.cell (i:=4) rfl⟩ fun _=> ?_
   clear A K f;rename_i f
   (try go_frame)
   refine hp 6 ?_;have c9:=p.out.out.cell (i:=12) rfl;have f9:=p.out.out.free 12;refine hc 7 fun K A=> ?_
   go_simp;have X:=(cA.refl o wf).setCell 12 (.string c.cipher);have l:=hid (show iK w i v b3 b4 ep lba o (cq ep lba false (bj P.found P.pos P.here P.ahead (.slice pu P.up.length Y) (.slice pv P.left.length Z)) c.slot c.cipher) _ from p.put 12 (.string c.cipher));have a2:=hid (aU aA.out X p.out.out (by decide));have a4:=hid (aU a3.out X p.out.out (by decide));have H:=hid (X.blk D.out bn.out);clear c9 f9 X
   generalize wf.setCell ⟨o,12,none⟩ (.string c.cipher)=wg at l a2 a4 H ⊢
   (try go_wp2_with fail)
   refine A.out _ _ ⟨H.cell (i:=1) rfl,H.cell (i:=4) rfl⟩ fun _=> ?_
   clear A K f;rename_i f
   (try go_frame)
   refine hd ?_;clear f
   go_wp2_with (first
     |((with_reducible refine ag 70 (.tmp 11) o 0 (cq ep lba false (bj P.found P.pos P.here P.ahead (.slice pu P.up.length Y) (.slice pv P.left.length Z)) c.slot c.cipher) _ (some 94) (l.out.out.range) underlying70 rfl da ?hg ?ho ?hds ?hx ?_);(case ho|hg|hds|hx=>rfl))
     |((with_reducible refine aa 70 (.tmp 4) (.tmp 94) b4 (cq 0 0 false jB 0 ⟨#[]⟩) (cq ep lba false (bj P.found P.pos P.here P.ahead (.slice pu P.up.length Y) (.slice pv P.left.length Z)) c.slot c.cipher) 70 l.out.told.res rfl da (jM rfl rfl) ?hgd ?ho ?hx ?hy ?_);(case hgd|ho|hx|hy=>rfl);(intro wy By oy))
     |fail)
   (try simp only[Exit.inBlock,Exit.then]);refine bodyPost_ret (aE rfl _ _ By.range rfl underlying70 rfl da) rfl ⟨⟨_,_,rfl,aU a2.out oy l.told.res (by decide),aU a4.out oy l.told.res (by decide)⟩,oy.below l.told.bel l.told.lo⟩
structure wN (cs:List aw):Prop where
 one:∀(j k:Nat) (a b:aw),cs[j]?=some a→cs[k]?=some b→j<k→a.lba≠b.lba
 l0:∀c∈cs,0≤c.lba∧c.lba<4096
theorem tJ {ep:Int} {cs:List aw} (h:wN cs):∀k,k≤cs.length→∀(j:Nat) (c:aw),j<k→cs[j]?=some c→cr ep (cs.take k) c.lba=some (fB ep c.slot c.cipher.data.toList)
 |0,_,j,c,hj,_=>by omega
 |k+1,hk,j,c,hj,hc=>by
  have b:cs[k]?=some cs[k]:=List.getElem?_eq_getElem (by omega);rw[j6 b]
  show(if c.lba=cs[k].lba then _ else _)= _
  by_cases a:j=k
  ·subst a
   rw[b]at hc
   injection hc with hc
   rw[←hc,if_pos rfl]
  ·rw[if_neg (h.one j k c _ hc b (by omega))]
   exact tJ h k (by omega) j c (by omega) hc
theorem pT (f:Int→Option (List UInt8)):∀n,(aC f n).length=jA (fun i=>(f (i:Int)).isSome) n
 |0=>rfl
 |n+1=>by
  unfold jA;rw[←pT f n]
  cases h:f (n:Int)with
  |none=>rw[nP h];simp
  |some x=>rw[mI h];simp
theorem ql {ep:Int} {cs:List aw} (h:wN cs):∀k,k≤cs.length→(aC (cr ep (cs.take k)) 4096).length=k
 |0,_=>by
  rw[pT]
  have:∀n,jA (fun i=>(cr ep (cs.take 0) (i:Int)).isSome) n=0:=fun n=>by
   induction n with
   |zero=>rfl
   |succ n ih=>unfold jA;rw[ih];simp[cr]
  exact this _
 |k+1,hk=>by
  have d:cs[k]?=some cs[k]:=List.getElem?_eq_getElem (by omega);obtain⟨f,g⟩:=h.l0 _ (List.getElem_mem (by omega:k<cs.length));have ih:=ql (ep:=ep) h k (by omega);rw[pT]at ih ⊢;refine Eq.trans (tC (P:=fun i=>(cr ep (cs.take k) (i:Int)).isSome) (a:=cs[k].lba.toNat) ?_ ?_ 4096 (fun i _ hne=> ?_) (by omega)) (by rw[ih])
  ·show(cr ep (cs.take k) ((cs[k].lba.toNat:Nat):Int)).isSome=false
   rw[show((cs[k].lba.toNat:Nat):Int)=cs[k].lba by omega,lW ep cs _ k (by omega) (fun j c e b=>h.one j k c _ e d b)]
   rfl
  ·show(cr ep (cs.take (k+1)) ((cs[k].lba.toNat:Nat):Int)).isSome=true
   rw[show((cs[k].lba.toNat:Nat):Int)=cs[k].lba by omega,tJ h (k+1) hk k _ (by omega) d]
   rfl
  ·show(cr ep (cs.take k) (i:Int)).isSome=(cr ep (cs.take (k+1)) (i:Int)).isSome
   rw[j6 d]
   show _=(if(i:Int)=cs[k].lba then _ else _:Option (List UInt8)).isSome
   rw[if_neg (by omega)]
theorem JA {f:Int→Option (List UInt8)} {lba:Int} (m:0≤lba) (n:lba<4096) (l:fp (aC f 4096)):(eV (aC f 4096) lba=true↔(f lba).isSome=true)∧∀y,f lba=some y→(bA (aC f 4096) lba).here.hash=⟨y.toArray⟩:=by
 have d:∀y,f lba=some y→(⟨lba,⟨y.toArray⟩⟩:ap)∈aC f 4096:=fun y hy=>by
  unfold aC;rw[List.mem_filterMap];refine⟨lba.toNat,by simp;omega, ?_⟩;rw[show((lba.toNat:Nat):Int)=lba by omega,hy]
  rfl
 have a:eV (aC f 4096) lba=true↔(f lba).isSome=true:=by
  rw[Jv l]
  constructor
  ·rintro⟨x,b,c⟩
   obtain⟨i,_,y,hy,rfl⟩:=mL b;simp only at c;rw[←c,hy]
   rfl
  ·intro h
   obtain⟨y,hy⟩:=Option.isSome_iff_exists.1 h;exact⟨_,d y hy,rfl⟩
 refine⟨a,fun y hy=> ?_⟩;have k:=a.2 (by rw[hy];rfl);have b:=k;unfold eV at b
 split at b
 ·rename_i x e
  have c:x.lba=lba:=by simpa using b
  obtain⟨i,_,z,g,j⟩:=mL (List.mem_of_getElem? e)
  show((aC f 4096)[ct (aC f 4096) lba]?.getD ap.none).hash= _
  rw[e];subst j;simp only at c;rw[c,hy]at g
  injection g with g
  rw[Option.getD_some,←g]
 ·cases b
theorem sF {b:List af} (o:∀(i j:Nat) (a d:af),b[i]?=some a→b[j]?=some d→i<j→gI a d) (ep:Int):∀k,k≤b.length→∀(t:Nat) (x:af),t<k→b[t]?=some x→x.epoch=ep→(∀(s:Nat) (y:af),t<s→s<k→b[s]?=some y→¬(y.lba=x.lba∧y.epoch=ep))→x∈bN (b.take k) ep
 |0,_,t,x,ht,_,_,_=>by omega
 |k+1,hk,t,x,ht,hx,he,hl=>by
  have g:b[k]?=some b[k]:=List.getElem?_eq_getElem (by omega);rw[nW g]
  by_cases l:t=k
  ·subst l
   rw[g]at hx
   injection hx with hx
   subst hx;unfold dm;rw[if_pos he]
   split
   ·split<;>simp
   ·simp
  ·have ih:=sF o ep k (by omega) t x (by omega) hx he (fun s y c p n=>hl s y c (by omega) n)
   have f:=hl k _ (by omega) (by omega) g;unfold dm
   split
   ·rename_i e
    split
    ·rename_i y hy
     split
     ·rename_i m
      have h:=pK _ y hy;rw[←h]at ih
      rcases List.mem_append.1 ih with c|c
      ·exact List.mem_append_left _ c
      ·simp at c
       subst c;exact absurd ⟨m.symm,e⟩ f
     ·exact List.mem_append_left _ ih
    ·rename_i hn
     have:bN (b.take k) ep=[]:=List.getLast?_eq_none_iff.1 hn
     rw[this]at ih
     cases ih
   ·exact ih
section
variable {v:ak} {m:AM} {log:List LE} {g:Int}
theorem aW.cellsOk (h:aW v m log g) (ep:Int) (hl:m.geo.lbas≤4096):wN (cellsOf log v.vers ep) where
 one:=(h.epochC ep).one
 l0:=fun c hc=>by
  unfold cellsOf at hc;obtain⟨x,f,rfl⟩:=List.mem_map.1 hc;obtain⟨k,y,d,rfl,a,_,_⟩:=lZ h.is f;rw[lB a];have b:iq v k d:=h.ent k (.cell d) (by rw[List.getElem?_map,a];rfl);have i:=b.ok.l0;have e:=b.lba;rw[h.geo]at e;omega
theorem aW.ofIs (h:aW v m log g) {ep lba:Int} {n:Nat} (hn:dM v.vers lba ep n):∃T:Option aw,Jz v ep lba n T∧(∀c,T=some c→c∈cellsOf log v.vers ep∧c.lba=lba)∧(T=none→∀c∈cellsOf log v.vers ep,c.lba≠lba):=by
 have F:=tB h.is lba ep
 by_cases i:∃x,mQ v.vers lba ep n=some x
 ·obtain⟨x,B⟩:=i
  have a:=B;unfold mQ bQ at a
  split at a
  ·cases a
  ·rename_i K
   obtain⟨y,hy⟩:∃y,v.vers[n-1]?=some y:=by
    cases u:v.vers[n-1]? with
    |none=>rw[u]at a;cases a
    |some y=>exact⟨y,rfl⟩
   rw[hy]at a;simp only[Option.bind_some]at a
   by_cases f:y.lba=lba
   ·rw[if_pos f]at a
    simp only[Option.bind_some]at a
    by_cases o:y.epoch=ep
    ·rw[if_pos o]at a
     injection a with a
     subst a
     have I:y∈bN v.vers ep:=by
      have:=sF h.is.sort ep v.vers.length (Nat.le_refl _) (n-1) y (List.getElem?_eq_some_iff.1 hy).1 hy o (fun s z e C r j=>hn.behind s z r (by omega) (.inr ⟨j.1.trans f,by omega⟩))
      rw[List.take_of_length_le (Nat.le_refl _)]at this;exact this
     obtain⟨k,z,c,q,e,C,r⟩:=lZ h.is I;have D:iq v k c:=h.ent k (.cell c) (by rw[List.getElem?_map,e];rfl);refine⟨some c,⟨fun j=>(by cases j),fun J b=> ?_⟩,fun J b=> ?_,fun j=>(by cases j)⟩
     ·injection b with b
      subst b;exact⟨y,k,B,by rw[q],by rw[h.lenv];have:=(List.getElem?_eq_some_iff.1 e).1;omega,D⟩
     ·injection b with b
      subst b;refine⟨?_, ?_⟩
      ·unfold cellsOf
       refine List.mem_map.2 ⟨y,I, ?_⟩;rw[q,lB e]
      ·rw[(h.is.fit k z c e).lba,←f,q]
    ·rw[if_neg o]at a;cases a
   ·rw[if_neg f]at a;cases a
 ·have l:mQ v.vers lba ep n=none:=by
   cases u:mQ v.vers lba ep n with
   |none=>rfl
   |some x=>exact absurd ⟨x,u⟩ i
  refine⟨none,⟨fun _=>l,fun c hc=>(by cases hc)⟩,fun c hc=>(by cases hc),fun _ c hc hlb=> ?_⟩;unfold cellsOf at hc;obtain⟨x,B,rfl⟩:=List.mem_map.1 hc;obtain⟨k,y,d,G,e,C,_⟩:=lZ h.is B;rw[G,lB e,(h.is.fit k y d e).lba]at hlb;obtain⟨t,A⟩:=h.is.vall k y d e;have L:=(List.getElem?_eq_some_iff.1 A).1;have E:cV lba ep (⟨y.lba,y.epoch,(k:Int)⟩:af):= .inr ⟨hlb,by show y.epoch≤ep;omega⟩;have M:t<n:=Nat.lt_of_not_le (fun j=>hn.behind t _ A j E);have hl:n-1<v.vers.length:=by have:=hn.le;omega
  have p:v.vers[n-1]?=some v.vers[n-1]:=List.getElem?_eq_getElem hl;have H:=hn.ahead (n-1) _ p (by omega)
  have w:v.vers[n-1].lba=lba∧v.vers[n-1].epoch=ep:=by
   by_cases u:t=n-1
   ·subst u
    rw[A]at p
    injection p with p
    rw[←p];exact⟨hlb,C⟩
   ·have r:=h.is.sort t (n-1) _ _ A p (by omega)
    unfold gI at r;unfold cV at H;simp only at r;omega
  refine i ⟨v.vers[n-1], ?_⟩;unfold mQ bQ;rw[if_neg (by omega),p];simp only[Option.bind_some];rw[if_pos w.1];simp only[Option.bind_some];rw[if_pos w.2]
end
end Go.Proofs.YtadooplpfhdhcaaGreat
