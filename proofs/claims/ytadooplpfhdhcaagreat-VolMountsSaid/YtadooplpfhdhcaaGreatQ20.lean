/- A volume is read (chapter 26): shown, ReadAt, Read. Walks of a segment: New, Put, Count, Leaves (chapters 16, 17). Leaves (chapter 16) and their hashes (chapter 15): what is said of one, its hash, whether they may be. -/
import Derived.Test.YtadooplpfhdhcaaGreatQ18
import Derived.Test.YtadooplpfhdhcaaGreatQ19
import Derived.Test.YtadooplpfhdhcaaGreatQ7
import Derived.Test.YtadooplpfhdhcaaGreatQ5
import Derived.Test.YtadooplpfhdhcaaGreatQ2
import Derived.Maps.OwnSet
import Derived.Maps.OwnOps
import Derived.Maps.StringElems
import Derived.Carry
import Derived.Deep.DeepAppendWide
import Derived.OneCell
import Derived.WalkSpells
import Derived.Test.YtadooplpfhdhcaaGreatQ4
set_option linter.unusedSimpArgs false
set_option linter.unusedVariables false
set_option maxRecDepth 100000
set_option maxHeartbeats 4000000
namespace Go.Proofs.YtadooplpfhdhcaaGreat
open Go Go.RowKit
open Go.Lib (hid)
open Go.Proofs.Tryz
theorem tI (i:ap) (v:ai) (x:ag) (k f:Nat) (lb:Int) (c:ByteArray) (w:World) (h:al w i v) (M:bp v) (hd:v.data.size=16) (I:x.slot=(f:Int)) (J:(f:Int)<v.used) (H:k<4294967296) (hc:bh ⟨(k:Int),(f:Int),lb,false,c⟩) (hb:ah (v.d.shown (4+(f:Int))) (cellL ⟨(k:Int),(f:Int),lb,false,c⟩)):
  Calls prog 89 #[.pointer (some ⟨i.vb,0,none⟩), .agg x.cells.toArray] w fun e w'=>(∃r,e= .returned (.tuple #[.string r, .int .i64 0])∧ah r (dO c.data.toList (dZ v.data.data.toList k f c.size)))∧Below w.heap.size w w':=by
 have P:=hid M;have HD:=hid hd;have T:=hid J;have E:=hid (show k<4294967296∧f<4294967296 from⟨H,by have:=M.u1;have:=M.sup.geo.b1;omega⟩);have HC:=hid hc;have O:=hid (show c.size≤4096 from by have:=hc.n;simp only at this;omega);have HB:=hid hb;have Q:=hid I;have H0:=hid h;clear M hd J H hc hb I h;go_enter func89,ntmps89
 go_wp2_with (first
  |((with_reducible refine ae 130 (.tmp 1) x.cells (some 3) ?hgd ?ho ?hd ?hx ?_);(case hgd|ho|hd|hx=>rfl);(intro b3 N l1 W e1 z1))
  |fail)
 have g:=hid (e1.mono l1);have Z:=hid (H0.below g.out);have z:=hid (show ac N b3 [.int .i64 x.lba, .int .i64 x.epoch, .int .i64 (f:Int)] 130 from by rw[←Q.out];exact W);clear W e1 z1 l1;refine wp_region_held_drew (S:=fun C=>C.cell? ⟨i.vb,0,none⟩=some (.pointer (some ⟨i.jb,0,none⟩))∧C.cell? ⟨b3,2,none⟩=some (.int .i64 (f:Int))) (by kernel_rfl) (⟨Z.vol.drew.cell (i:=0) rfl,z.drew.cell (i:=2) rfl⟩) (fun a=> ?_);obtain⟨wd,p⟩:∃wd,wd=N.drew:=⟨_,rfl⟩;have l:Below N.heap.size N wd:=by rw[p];exact(Below.refl _ _).drew
 have Hd:=hid (Z.below l);have F:=hid (z.below l z.lt);have q:=hid (g.trans (l.mono g.size));rw[←p];rw[←p]at a;clear p l;refine hp 0 ?_;refine hp 1 ?_;refine hp 2 ?_;refine hp 3 ?_;refine hp 4 ?_;refine hp 5 ?_;refine wpAnyH_ready (rs:=[6]) (by kernel_rfl) (by simp) ?_;refine AllReadyH.cons rfl (fun K G=> ?_) AllReadyH.nil;go_simp
 refine(oC i v (f:Int) _ Hd.out P.out (by omega) T.out).mono ?_
 rintro e we ⟨rfl,m⟩;have He:=hid (Hd.below m);have U:=hid (F.below m F.lt);have s:=hid (q.trans (m.mono q.size));clear m
 (try go_wp2_with fail)
 refine G.out _ _ (⟨He.vol.cell (i:=0) rfl,U.cell (i:=2) rfl⟩) (fun b=> ?_);clear G K a;have a:=b;clear b
 (try go_frame)
 refine hp 7 ?_;refine hp 8 ?_;refine hp 9 ?_;refine hp 10 ?_;refine hp 11 ?_;refine wpAnyH_done (by kernel_rfl) ?_ _;clear a;go_wp2_with fail
 refine(nT ⟨(k:Int),(f:Int),lb,false,c⟩ (v.d.shown (4+(f:Int))) _ HB.out HC.out rfl).mono ?_
 rintro e wf ⟨rfl,A⟩;have Hf:=hid (He.below A);have t:=hid (s.trans (A.mono s.size));clear A
 go_upto_region 7 with(first
  |((with_reducible refine ab 134 _ zeroCell (some 8) ?hgd ?ho ?hd ?_);(case hgd|ho|hd=>rfl);(intro L wg V X e8 z8))
  |((with_reducible refine aa 134 (.tmp 8) (.tmp 25) L cC (ak.cells ⟨(k:Int),(f:Int),lb,false,c⟩) 134 X rfl aX (bZ _) ?hgd ?ho ?hx ?hy ?_);(case hgd|ho|hx|hy=>rfl);(intro wh Y oh))
  |fail)
 have j:=hid Y;have B:Below wf.heap.size wf wh:=oh.below (e8.mono V) V;have Hh:=hid (Hf.below B);have u:=hid (t.trans (B.mono t.size));clear Y X e8 oh z8 V B;refine wp_region_held_drew (S:=fun C=>C.cell? ⟨i.vb,2,none⟩=some (.string v.data)∧C.cell? ⟨L,0,none⟩=some (.int .i64 (k:Int))∧C.cell? ⟨L,1,none⟩=some (.int .i64 (f:Int))∧C.cell? ⟨L,4,none⟩=some (.string c)) (by kernel_rfl) (⟨Hh.vol.drew.cell (i:=2) rfl,j.drew.cell (i:=0) rfl,j.drew.cell (i:=1) rfl,j.drew.cell (i:=4) rfl⟩) (fun a=> ?_);refine hp 0 ?_;refine hp 1 ?_;refine hp 2 ?_;refine hp 3 ?_;refine hp 4 ?_;refine hp 5 ?_;refine hp 6 ?_;refine hp 7 ?_;refine hp 8 ?_;refine hp 9 ?_;refine wpAnyH_ready (rs:=[10]) (by kernel_rfl) (by simp) ?_;refine AllReadyH.cons rfl (fun K G=> ?_) AllReadyH.nil;go_simp
 refine(nw v.data c k f _ HD.out E.out.1 E.out.2 O.out).mono ?_
 rintro e wk ⟨⟨r,rfl,tr⟩,o⟩;have R:=hid tr;have Hk:=hid (Hh.below ((Below.refl _ _).drew.trans o));have y:=hid (j.drew.below o j.lt);have D:=hid (u.drew.trans (o.mono u.size));clear o tr
 (try go_wp2_with fail)
 refine G.out _ _ (⟨Hk.vol.cell (i:=2) rfl,y.cell (i:=0) rfl,y.cell (i:=1) rfl,y.cell (i:=4) rfl⟩) (fun b=> ?_);clear G K a;have a:=b;clear b
 (try go_frame)
 refine hp 11 ?_;refine hp 12 ?_;refine hp 13 ?_;refine hp 14 ?_;refine wpAnyH_done (by kernel_rfl) ?_ _;clear a;go_wp2_with fail;go_ret2;exact⟨⟨r,rfl,R.out⟩,D.out⟩
theorem rB (i:ap) (v:ai) (lba epoch:Int) (x:ag) (I B:Nat) (lb:Int) (k:ByteArray) (w:World) (h:al w i v) (ok:bp v) (hd:v.data.size=16) (l0:0≤lba) (l1:lba<v.last.geo.lbas) (e0:v.last.geo.first≤epoch) (e1:epoch≤v.epoch) (hx:mq v.vers lba epoch x) (R:v.vers.length≤1048576) (T:0≤x.epoch∧x.epoch≤4294967295) (N:v.G.atKey (.int .i64 x.epoch) (.lit (.bool false))= .lit (.bool false))
  (O:x.slot=(B:Int)) (P:(B:Int)<v.used) (M:I<4294967296) (hc:bh ⟨(I:Int),(B:Int),lb,false,k⟩) (hb:ah (v.d.shown (4+(B:Int))) (cellL ⟨(I:Int),(B:Int),lb,false,k⟩)):
  Calls prog 26 #[.pointer (some ⟨i.vb,0,none⟩), .int .i64 lba, .int .i64 epoch] w fun e w'=>(∃r,e= .returned (.tuple #[.string r, .int .i64 0])∧ah r (dO k.data.toList (dZ v.data.data.toList I B k.size)))∧Below w.heap.size w w':=by
 have bx:∀(a b c:Int) (w:World),Sem.run prog (Instr.field 23 (.agg #[.int .i64 a, .int .i64 b, .int .i64 c]) 2) w= .ok (.int .i64 c) w:=fun _ _ _ _=>by kernel_rfl
 have D:=hid (fun(j:World) (hx:al j i v)=>iL i v j hx);obtain⟨⟨blocks,V,first⟩,hl⟩:∃s,v.last.geo=s:=⟨_,rfl⟩;have Y:=hid (fun(j:World) (hx:al j i v)=>show Calls prog 49 #[.pointer (some ⟨i.vb,0,none⟩)] j fun e w'=>e= .returned (.agg #[.int .i64 blocks, .int .i64 V, .int .i64 first])∧Below j.heap.size j w' from by have:=D.out j hx;rw[hl]at this;exact this);have bt:¬epoch<first:=by rw[hl]at e0;simp only at e0;omega
 obtain⟨ve,Q⟩:∃ve,v.epoch=ve:=⟨_,rfl⟩;have aq:=hid Q;have bw:¬ve<epoch:=by omega
 have E:=hid (And.intro l0 l1);have Z:=hid hx;have aA:=hid R;have H:=hid T;have X:=hid N;have ad:=hid (fun(j:World) (hx:al j i v)=>tI i v x I B lb k j hx ok hd O P M hc hb);have H0:=hid h;clear D hl e0 e1 l0 l1 hx R T N ok hd O P M hc hb h Q;go_enter func26,ntmps26;go_wp2_with fail
 refine(nz i v lba _ H0.out E.out.1 E.out.2).mono ?_
 rintro e w1 ⟨rfl,y⟩;have m:=hid y;have W:=hid (H0.below y);clear y;have c3:w1.cell? ⟨i.vb,3,none⟩=some (.pointer (some ⟨i.xb,0,none⟩)):=W.vol.cell (i:=3) rfl;go_wp2_with fail
 refine(A7 i.xb v.vers.length i.xv v.vers lba epoch x _ W.index W.vers rfl aA.out Z.out).mono ?_
 rintro e w2 ⟨rfl,z⟩;have o:=hid (m.trans (z.mono m.size));have H2:=hid (W.below z);clear z c3
 go_upto_region 5 with(first
  |((with_reducible refine ab 130 _ cE (some 9) ?hgd ?ho ?hd ?_);(case hgd|ho|hd=>rfl);(intro b9 w3 l9 B9 e9 z9))
  |((with_reducible refine aa 130 (.tmp 9) (.tmp 25) b9 (ag.cells ⟨0,0,0⟩) x.cells 130 B9 rfl aM (bV _) ?hgd ?ho ?hx ?hy ?_);(case hgd|ho|hx|hy=>rfl);(intro w4 B4 o4))
  |fail)
 have F:=hid B4;have A:Below w2.heap.size w2 w4:=o4.below (e9.mono l9) l9;have H4:=hid (H2.below A);have p:=hid (o.trans (A.mono o.size));clear B4 B9 e9 o4 z9 l9 A;go_wp2_with fail
 refine(Y.out _ H4.out).mono ?_
 rintro e w5 ⟨rfl,l⟩;have t:=hid (H4.below l);have u:=hid (F.below l F.lt);have q:=hid (p.trans (l.mono p.size));clear l;have c5:w5.cell? ⟨i.vb,5,none⟩=some (.pointer (some ⟨i.bb,0,none⟩)):=t.vol.cell (i:=5) rfl;go_wp2_with fail
 refine(aR i.bb i.c2 v.first ve i.m1 i.m2 i.m3 _ (by rw[←aq.out];exact t.book)).mono ?_
 rintro e w' ⟨rfl,rfl⟩;go_upto_region 7 with fail;clear c5;refine wp_region_held_drew (S:=fun j=>j.cell? ⟨i.vb,5,none⟩=some (.pointer (some ⟨i.bb,0,none⟩))∧j.cell? ⟨b9,1,none⟩=some (.int .i64 x.epoch)) (by kernel_rfl) (⟨t.vol.drew.cell (i:=5) rfl,u.drew.cell (i:=1) rfl⟩) (fun f=> ?_);refine hp 0 ?_;refine hp 1 ?_;refine hp 2 ?_;refine hp 3 ?_;refine hp 4 ?_;refine hp 5 ?_;refine wpAnyH_ready (rs:=[6]) (by kernel_rfl) (by simp) ?_;refine AllReadyH.cons rfl (fun K hK=> ?_) AllReadyH.nil;go_simp
 refine(jt i.bb i.c2 i.m1 i.m2 i.m3 v.n v.first v.epoch x.epoch v.U v.L v.G false _ t.book.drew (t.below (Below.refl _ _).drew).maps H.out.1 H.out.2 X.out).mono ?_
 rintro e w' ⟨rfl,rfl⟩
 (try go_wp2_with fail)
 refine hK.out _ _ (⟨t.vol.drew.cell (i:=5) rfl,u.drew.cell (i:=1) rfl⟩) (fun g=> ?_);clear hK K f;have f:=g;clear g
 (try go_frame)
 refine hp 7 ?_;refine wpAnyH_done (by kernel_rfl) ?_ _;clear f
 go_wp2_with (first
  |((with_reducible refine aj 130 (.tmp 9) b9 x.cells 130 _ u.out.drew underlying130 rfl aM ?hgd ?ho ?hx ?_);(case hgd|ho|hx=>rfl))
  |fail)
 refine(ad.out _ (t.below (Below.refl _ _).drew)).mono ?_
 rintro e w6 ⟨⟨r,rfl,tr⟩,J⟩;have an:=hid tr;have C:=hid (q.drew.trans (J.mono q.size));clear tr J;go_wp2_with fail;go_ret2;exact⟨⟨r,rfl,an.out⟩,C.out⟩
theorem Du (i:ap) (v:ai) (lba:Int) (r:ByteArray) (w:World) (h:al w i v) (l:List UInt8)
  (a:∀b,al b i v→Calls prog 26 #[.pointer (some ⟨i.vb,0,none⟩), .int .i64 lba, .int .i64 v.epoch] b fun e w'=>(∃r,e= .returned (.tuple #[.string r, .int .i64 0])∧ah r l)∧Below b.heap.size b w'):
  Calls prog 27 #[.pointer (some ⟨i.vb,0,none⟩), .int .i64 lba] w fun e w'=>(∃r,e= .returned (.tuple #[.string r, .int .i64 0])∧ah r l)∧Below w.heap.size w w':=by
 have c:=hid a;clear a;have j:w.cell? ⟨i.vb,5,none⟩=some (.pointer (some ⟨i.bb,0,none⟩)):=h.vol.cell (i:=5) rfl;go_enter func27,ntmps27;go_wp2_with fail
 refine(aP i v _ h).mono ?_
 rintro e w' ⟨rfl,rfl⟩;go_wp2_with fail
 refine(aR i.bb i.c2 v.first v.epoch i.m1 i.m2 i.m3 _ h.book).mono ?_
 rintro e w' ⟨rfl,rfl⟩;go_wp2_with fail
 refine(c.out _ h).mono ?_
 rintro e k ⟨⟨r,rfl,f⟩,hb⟩;have d:=hid f;have g:=hid hb;clear f hb;go_wp2_with fail;go_ret2;exact⟨⟨r,rfl,d.out⟩,g.out⟩
open Go.Maps Go.WideMaps
theorem oK:Keyed prog 3:=int_keyed underlying3
theorem ww (w:World):(zeroValue 9).run prog w= .ok (.string ByteArray.empty) w:=by kernel_rfl
theorem ze {k:Int} (a:0≤k) (b:k≤4294967296):keyOf prog 3 (.int .i64 k)=some (.int .i64 k):=keyOf_int_mk underlying3 (WalkArith.wf_i64 (by omega))
theorem FG:(prog.info? 3).map (fun i=>(i.zero,i.size,i.bytes))=some (some (.int .i64 0),1,8):=by kernel_rfl
theorem tJ:(prog.info? 65).map (fun i=>(i.zero,i.size,i.bytes))=some (some (.agg #[.int .i64 0, .string ByteArray.empty]),2,24):=by kernel_rfl
theorem JP (B:Nat) (w:World):(binOp .neq 247 (.map (some B)) (.map none)).run prog w= .ok (.bool true) w:=run_neq_map_nil w 247 3 9 (some B) underlying247
def eV (ep slot:Int) (c:List UInt8):List UInt8:=eh (da [4,4] [ep,slot]++c)
theorem jZ (ep a:Int) (c:List UInt8):(eV ep a c).length=32:=cT _
theorem Iu {ep b:Int} (e:0≤ep) (f:ep≤4294967295) (g:0≤b) (h:b≤4294967295):kh [4,4] [ep,b]:=⟨rfl,fun i a x c d=>by
 rcases i with _|_|i
 ·simp at c d;subst c d;simp;omega
 ·simp at c d;subst c d;simp;omega
 ·simp at c⟩
theorem FH (ep a:Int) (c:ByteArray) (w:World) (A:0≤ep) (n:ep≤4294967295) (C:0≤a) (D:a≤4294967295) (hc:c.size≤4096):
  Calls prog 20 #[.int .i64 ep, .int .i64 a, .string c] w fun e w'=>(∃r,e= .returned (.tuple #[.string r, .int .i64 0])∧ah r (eV ep a c.data.toList))∧Below w.heap.size w w':=by
 go_enter func20,ntmps20
 go_wp2_with (first
  |((with_reducible refine bi 34 3 2 ?parts [.int .i64 4, .int .i64 4] (.int .i64 0) 1 8 (some 11) underlying34 FG (by omega) (by omega) ?hgd ?ho ?hd ?hf ?_);(case hgd|ho|hd=>rfl);(case hf=>kernel_rfl);(intro B d u j n z))
  |fail)
 obtain⟨w2,b⟩:∃w2,w2=d.alloc (Obj.cells #[Value.int IntKind.i64 ep,Value.int IntKind.i64 a] 3):=⟨_,rfl⟩;have q:ac w2 d.heap.size [.int .i64 ep, .int .i64 a] 3:=by rw[b];exact ac.new d _ _
 have o:Below d.heap.size d w2:=by rw[b];exact(Below.refl _ _).alloc (Nat.le_refl _) _
 have v:d.heap.size≤d.heap.size:=Nat.le_refl _;rw[←b];clear b;have f:=hid (show Below w.heap.size w w2 from(n.mono u).trans (o.mono (by have:=n.size;omega)))
 refine(fc _ _ [4,4] [ep,a] _ (bC.blk (xs:=[4,4]) (j.below o (Nat.lt_of_lt_of_le j.lt v)) rfl 2) (bC.blk (xs:=[ep,a]) q rfl 2) (by simp) (by simp) (Iu (by assumption) (by assumption) (by assumption) (by assumption))).mono ?_
 rintro e E ⟨r,rfl,p,h⟩;have l:=hid p;have s:r.size=8:=by rw[p.size];simp[da,beBytes_length]
 have y:=hid s;have g:=hid (f.trans (h.mono f.size));clear j q o u v z h p s;go_wp2_with fail
 refine(vF r c _ _ (by rw[y.out];omega)).mono ?_
 rintro e F ⟨t,rfl,x,i⟩;have m:=hid (show ah t (eV ep a c.data.toList)from x.cast (by unfold eV;rw[show r.data.toList= _ from l.out]));have k:=hid (g.trans (i.mono g.size));clear x i;go_wp2_with fail;go_ret2;exact⟨⟨t,rfl,m.out⟩,k.out⟩
structure ja (D:DataW Unit) (f:Int→Option (List UInt8)):Prop where
 map:IsMap D
 has:∀k,Maps.has D (.int .i64 k)=(f k).isSome
 val:∀k x,f k=some x→∀zd,D.atKey (.int .i64 k) zd= .lit (.string x)
theorem ja.none:ja (.map []) (fun _=>none):=⟨isMap_empty,fun _=>rfl,fun _ _ h=>by cases h⟩
theorem ja.put {D:DataW Unit} {f:Int→Option (List UInt8)} (h:ja D f) (k:Int) (x:List UInt8):ja (D.put (.int .i64 k) (.lit (.string x))) (fun j=>if j=k then some x else f j):=by
 refine⟨h.map.put _ _,fun j=> ?_,fun j y b c=> ?_⟩
 ·by_cases a:j=k
  ·subst a;rw[has_put_same h.map (show WideAt.IsKeyLit (.int .i64 j)from trivial)];simp
  ·rw[has_put_other (by intro e;injection e with _ e;exact a e),h.has j,if_neg a]
 ·by_cases a:j=k
  ·subst a
   rw[if_pos rfl]at b;obtain rfl:=Option.some.inj b;rw[atKey_put_same h.map (show WideAt.IsKeyLit (.int .i64 j)from trivial)]
  ·rw[if_neg a]at b
   rw[atKey_put_other (by intro e;injection e with _ e;exact a e)];exact h.val j y b c
structure dK (w:World) (ps B n:Nat) (ep:Int) (D:DataW Unit):Prop where
 blk:ac w ps [.int .i64 ep, .map (some B)] 249
 map:w.ownsMap prog 3 (plainElem prog 9) B n D
 ne:B≠ps
theorem dK.below {w b:World} {a B n:Nat} {ep:Int} {D:DataW Unit} (h:dK w a B n ep D) (hb:Below w.heap.size w b):dK b a B n ep D:=
 ⟨h.blk.below hb h.blk.lt,h.map.kept (below_grown hb) (by simp),h.ne⟩
theorem nC (ep:Int) (w:World) (j:0≤ep) (k:ep≤4294967295):
  Calls prog 132 #[.int .i64 ep] w fun e w'=>(∃b B,e= .returned (.tuple #[.pointer (some ⟨b,0,none⟩), .int .i64 0])∧dK w' b B 0 ep (.map [])∧w.heap.size≤B∧w.heap.size≤b)∧Below w.heap.size w w':=by
 have h:=@run_makeMap prog;go_enter func132,ntmps132
 go_wp2_with (first
  |((with_reducible refine ae 249 (.tmp 12) ([.int .i64 ep, .map (some w.heap.size)]) (some 13) ?hgd ?ho ?hd ?hx ?_);(case hgd|ho|hd|hx=>rfl);(intro b3 i d f c l))
  |fail)
 have g:w.heap.size<b3:=by simp at d;omega
 have a:i.ownsMap prog 3 (plainElem (H:=Unit) prog 9) w.heap.size 0 (.map []):=
  (World.ownsMap_made w prog 3 _).kept (below_grown (c.mono d)) (by simp)
 go_ret2;exact⟨⟨b3,w.heap.size,rfl,⟨f,a,by omega⟩,Nat.le_refl _,by omega⟩,((Below.refl _ _).alloc (Nat.le_refl _) _).trans (c.mono (by omega))⟩
theorem ip (a B n:Nat) (ep:Int) (D:DataW Unit) (w:World) (h:dK w a B n ep D):
  Calls prog 135 #[.pointer (some ⟨a,0,none⟩)] w fun e w'=>e= .returned (.bool true)∧w=w':=by
 have c:=h.blk.cell (i:=1) rfl;have b:=JP B;go_enter func135,ntmps135;go_wp2_with fail;go_ret;exact⟨rfl,rfl⟩
theorem mx (l B n:Nat) (ep lba a:Int) (c:ByteArray) (D:DataW Unit) (w:World) (h:dK w l B n ep D) (hn:n<4096) (x:0≤ep) (y:ep≤4294967295) (E:0≤a) (F:a≤4294967295) (C:0≤lba) (G:lba<4096) (hc:c.size≤4000):
  Calls prog 134 #[.pointer (some ⟨l,0,none⟩), .int .i64 lba, .int .i64 a, .string c] w fun e w'=>(e= .returned (.int .i64 0)∧dK w' l B (n+1) ep (D.put (.int .i64 lba) (.lit (.string (eV ep a c.data.toList)))))∧af [B] w w':=by
 have z:(c.size:Int)≤4000:=by omega
 have j:=hid h;have o:=hid hn;clear h;go_enter func134,ntmps134;go_wp2_with fail
 refine(ip l B n _ _ _ j.out).mono ?_
 rintro e H ⟨rfl,rfl⟩;have v:=j.blk.cell (i:=0) rfl;have t:=j.blk.cell (i:=1) rfl;go_wp2_with fail;clear v t
 refine(FH ep a c _ x y E F (by omega)).mono ?_
 rintro e I ⟨⟨r,rfl,s⟩,g⟩;have p:=hid s;have A:r.size=32:=by rw[s.size,jZ]
 have f:=hid (j.below g);have m:=hid g;have t:=f.blk.cell (i:=1) rfl;have cr:=ze (k:=lba) C (by omega);clear g s
 go_wp2_with (first
  |(at_mapUpdate;refine wpList_mapUpdate_own _ rfl _ _ _ 247 rfl 3 9 oK underlying247 _ B n D rfl f.map (by have:=o.out;unfold maxLen;omega) _ _ _ rfl rfl cr _ [] (plainElem_string underlying9 (by rw[A];unfold maxLen;omega)) ?_;intro J d b)
  |fail)
 have u:=f.blk.grown b (by intro h;injection h with h;exact j.ne h.symm);go_ret;rw[show r.data.toList= _ from p.out]at d;exact⟨⟨rfl,⟨u,d,j.ne⟩⟩,(af.of_below m.out (Nat.le_refl _)).trans (af.of_grown b (fun k q=>by injection q with q;simp[q]))⟩
theorem Bj (d B n:Nat) (ep lba a:Int) (c:ByteArray) (D:DataW Unit) (b w:World) (h:dK w d B n ep D) (hb:Below b.heap.size b w) (k:b.heap.size≤B) (hn:n<4096) (i:0≤ep) (j:ep≤4294967295) (o:0≤a) (p:a≤4294967295) (l:0≤lba) (m:lba<4096) (hc:c.size≤4000):
  Calls prog 134 #[.pointer (some ⟨d,0,none⟩), .int .i64 lba, .int .i64 a, .string c] w fun e w'=>(e= .returned (.int .i64 0)∧dK w' d B (n+1) ep (D.put (.int .i64 lba) (.lit (.string (eV ep a c.data.toList)))))∧Below b.heap.size b w':=
 (mx d B n ep lba a c D w h hn i j o p l m hc).mono fun e w' f=>⟨f.1,f.2.below hb (by intro x g;simp at g;subst g;exact k) hb.size⟩
theorem iH {P:Program} (w:World) {f:Array Oper} {c:List Oper} {o:Oper} {a:Act} {Q:Exit→Act→World→Prop} (p:o.guard=none) (m x:Operand) (t:TypeId) (h:o.op=Op.lookup t m x true)
  (k e:TypeId) (K:Keyed P k) (r:P.underlying t=some (.map k e)) (i:P.underlying e=some .string) (z:(zeroValue e).run P w= .ok (.string ByteArray.empty) w) (b n:Nat) (D:DataW Unit)
  (q:a.eval m= .map (some b)) (d:w.ownsMap P k (plainElem P e) b n D) (key:Value) (g:Lit) (y:a.eval x=key) (cr:keyOf P k key=some g)
  (l:∀s:ByteArray,D.atKey g (.lit (.string ByteArray.empty.data.toList))= .lit (.string s.data.toList)→wpList P f Q c (a.put o.dst (.tuple #[.string s, .bool (Maps.has D g)])) w):
  wpList P f Q (o::c) a w:=
 wpList_lookup_own_ok w p m x t h k e K r (plainElem P e) z (.lit (.string ByteArray.empty.data.toList)) [] (plainElem_string i (by show 0≤_;omega)) b n D q d key g y cr (fun v A u=>by
  obtain⟨s,rfl,j,_⟩:=plainElem_string_inv i u;exact l s (congrArg Prod.fst j))
structure bK where
 lba:Int
 hash:ByteArray
def bK.cells (x:bK):List Value:=[.int .i64 x.lba, .string x.hash]
def hO (l:List bK):List Value:=l.flatMap bK.cells
theorem zf (a b:List bK):hO (a++b)=hO a++hO b:=by simp[hO]
def bu (f:Int→Option (List UInt8)) (k:Nat):List bK:=(List.range k).filterMap fun(i:Nat)=>(f (i:Int)).map fun x=>⟨(i:Int),⟨x.toArray⟩⟩
theorem mz {f:Int→Option (List UInt8)} {k:Nat} {x:List UInt8} (h:f (k:Int)=some x):bu f (k+1)=bu f k++[⟨(k:Int),⟨x.toArray⟩⟩]:=by simp[bu,List.range_succ,h]
theorem nD {f:Int→Option (List UInt8)} {k:Nat} (h:f (k:Int)=none):bu f (k+1)=bu f k:=by simp[bu,List.range_succ,h]
theorem rC (f:Int→Option (List UInt8)) (k:Nat):(bu f k).length≤k:=by
 unfold bu;exact Nat.le_trans (List.length_filterMap_le _ _) (by simp)
theorem nY (M B n:Nat) (ep:Int) (D:DataW Unit) (f:Int→Option (List UInt8)) (w:World) (h:dK w M B n ep D) (P:ja D f):
  Calls prog 137 #[.pointer (some ⟨M,0,none⟩)] w fun e w'=>(∃C,e= .returned C∧w'.ownsRow w.heap.size 65 2 C (bu f 4096).length (hO (bu f 4096)))∧Below w.heap.size w w':=by
 have N:=hid h;have E:=hid P;clear h P;obtain⟨Z,W,J,K,L⟩:=info_parts tJ;go_enter func137,ntmps137;go_wp2_with fail
 refine(ip M B n _ _ _ N.out).mono ?_
 rintro e w1 ⟨rfl,rfl⟩;go_wp2_with fail;go_loopw [3,10] (fun C i wr=>∃k:Nat,k≤4096∧i= .int .i64 k∧wr.ownsRow w.heap.size 65 2 C (bu f k).length (hO (bu f k))∧Below w.heap.size w wr) (fun _ i _=>4096-(intOf i).toNat)
 case atStart=>exact⟨0,by omega,rfl,World.ownsRow_nil _ _ _ _,Below.refl _ _⟩
 case round=>
  obtain⟨k,hk,rfl,a,b⟩:=hrel;have G:=hid a;have z:=hid b;have j:=hid (N.below b);clear a b
  by_cases X:k<4096
  ·have Q:(k:Int)<4096:=by omega
   have c1:=j.blk.cell (i:=1) rfl;have cr:=ze (k:=(k:Int)) (by omega) (by omega);obtain⟨q,p⟩:∃q,f (k:Int)=q:=⟨_,rfl⟩
   cases q with
   |some x=>
    have t:Maps.has D (.int .i64 (k:Int))=true:=by rw[E.has,p];rfl
    have A:=hid p;clear p;have u:=rC f k;obtain⟨n0,y⟩:∃n0,(bu f k).length=n0:=⟨_,rfl⟩;have r:=hid y;have Y:n0≤4096:=by omega
    clear y u;have a:=G.out;rw[r.out]at a;have H:=hid a;clear a
    go_wp2_with (first
     |(at_lookup;refine iH _ rfl _ _ 247 rfl 3 9 oK underlying247 underlying9 (ww _) B n D rfl j.map _ _ rfl cr ?_;intro s c;have F:=hid c;clear c)
     |((with_reducible refine bi 213 65 1 ?parts [.int .i64 (k:Int), .string s] (.agg #[.int .i64 0, .string ByteArray.empty]) 2 24 (some 27) underlying213 tJ (by omega) (by omega) ?hgd ?ho ?hd ?hf ?_);(case hgd|ho|hd=>rfl);(case hf=>kernel_rfl);(intro V w7 S U O z7);(have m:=z.out.trans (O.mono (Nat.le_trans z.out.size S)));(have d:=own_below (O.mono S) H.out))
     |(at_builtin;refine wpList_append_own_wide _ rfl _ _ 213 rfl w.heap.size 65 Z (.agg #[.int .i64 0, .string ByteArray.empty]) 2 24 underlying213 W J K L rfl (by decide) _ n0 _ rfl d ⟨V,0,none⟩ 1 1 [.int .i64 (k:Int), .string s] rfl rfl (bI U) (by intro v R;simp at R;rcases R with rfl|rfl<;>rfl) (by unfold maxLen;omega) (by omega) m.size ?_;intro v' w8 g l T)
     |fail)
    have I:s=⟨x.toArray⟩:=by
     have o:=F.out;rw[E.val _ _ A.out]at o
     injection o with o
     injection o with o
     exact ah.of (show ah s x from o.symm)
    go_roundw
    case rel=>
     refine⟨k+1,by omega,by go_num, ?_,dH m d l (Nat.le_refl _) m.size⟩;rw[mz A.out,zf,List.length_append,r.out];rw[I]at g;exact g
    case measure=>simp[intOf];omega
   |none=>
    have t:Maps.has D (.int .i64 (k:Int))=false:=by rw[E.has,p];rfl
    have A:=hid p;clear p
    go_wp2_with (first
     |(at_lookup;refine iH _ rfl _ _ 247 rfl 3 9 oK underlying247 underlying9 (ww _) B n D rfl j.map _ _ rfl cr ?_;intro s c;clear c)
     |fail)
    go_roundw
    case rel=>
     refine⟨k+1,by omega,by go_num, ?_,z.out⟩;rw[nD A.out];exact G.out
    case measure=>simp[intOf];omega
  ·obtain rfl:k=4096:=by omega
   go_wp2_with fail;go_ret;exact⟨⟨_,rfl,G.out⟩,z.out⟩
def tK (x:bK):List UInt8:=beBytes 4 x.lba.toNat++x.hash.data.toList
def lG (x:bK):List UInt8:=eh ([0]++tK x)
structure zg (x:bK):Prop where
 l0:0≤x.lba
 l1:x.lba≤4095
 n:x.hash.size=32
theorem jF {x:bK}:(prog.info? 65).map (·.size)=some x.cells.length:=by kernel_rfl
theorem zh (x:bK):∀v∈x.cells,v.oneCell'=true:=by intro v a;simp[bK.cells]at a;rcases a with rfl|rfl<;>rfl
theorem zi (w:World):Sem.run prog (zeroValue 65) w= .ok (.agg (bK.cells ⟨0,⟨#[]⟩⟩).toArray) w:=by kernel_rfl
theorem Bl (n:Int) (w:World) (a:0≤n) (b:n≤4095):
  Calls prog 63 #[.int .i64 n] w fun e w'=>e= .returned (.bool true)∧w=w':=by
 go_enter func63,ntmps63;go_wp2_with fail;go_ret
 first|exact⟨rfl,rfl⟩|exact⟨dX (by simp;omega),rfl⟩|exact⟨dX (by simp),rfl⟩
theorem rD (x:bK) (w:World) (hx:zg x):
  Calls prog 218 #[.agg x.cells.toArray] w fun e w'=>(∃r,e= .returned (.string r)∧ah r (tK x))∧Below w.heap.size w w':=by
 have f:=hid hx;have hn:(x.hash.size:Int)=32:=by have:=hx.n;omega
 clear hx;go_enter func218,ntmps218
 go_wp2_with (first
  |((with_reducible refine ae 65 (.tmp 0) x.cells (some 1) ?hgd ?ho ?hd ?hx ?_);(case hgd|ho|hd|hx=>rfl);(intro v z o g l t;have y:=g.cell (i:=0) rfl;have s:=g.cell (i:=1) rfl))
  |fail)
 have c:=hid g;have a:=hid (l.mono o);clear g l t o
 refine(Bl x.lba _ f.l0 f.l1).mono ?_
 rintro e w' ⟨rfl,rfl⟩;go_wp2_with fail;obtain⟨k,p⟩:∃k:Nat,x.lba=(k:Int):=⟨x.lba.toNat,by have:=f.l0;omega⟩;rw[p]
 refine(sF k 4 _ (by decide) (by decide) (by have:=f.l1;omega) (fun _=>by have:=f.l1;simp;omega)).mono ?_
 rintro e A ⟨r,rfl,j,b⟩;have h:=hid j;have m:r.size=4:=by rw[j.size,beBytes_length]
 have u:=hid m;have d:=hid (a.trans (b.mono a.size));have s:=(c.below b c.lt).cell (i:=1) rfl;have q:(r.size:Int)+(x.hash.size:Int)≤100:=by omega
 clear b j m;go_wp2_with fail;go_ret;refine⟨⟨_,rfl,(h.append (ah.self x.hash)).cast ?_⟩,d.out⟩;unfold tK;rw[show x.lba.toNat=k by omega]
theorem Dv (s:ByteArray) (w:World) (b:s.size≤1000000):
  Calls prog 270 #[.string s] w fun e w'=>(∃r,e= .returned (.string r)∧ah r (eh ([0]++s.data.toList)))∧Below w.heap.size w w':=by
 go_enter func270,ntmps270;go_wp2_with fail
 refine(vF ⟨#[0]⟩ s _ _ (by show 1+s.size≤_;omega)).mono ?_
 rintro e c ⟨r,rfl,a,hb⟩;go_wp2_with fail;go_ret;exact⟨⟨r,rfl,a⟩,hb⟩
theorem Dw (x:bK) (w:World) (hx:zg x):
  Calls prog 220 #[.agg x.cells.toArray] w fun e w'=>(∃r,e= .returned (.string r)∧ah r (lG x))∧Below w.heap.size w w':=by
 have j:=hid hx;clear hx;go_enter func220,ntmps220
 go_wp2_with (first
  |((with_reducible refine ae 65 (.tmp 0) x.cells (some 1) ?hgd ?ho ?hd ?hx ?_);(case hgd|ho|hd|hx=>rfl);(intro p t l i k q))
  |((with_reducible refine aj 65 (.tmp 1) p x.cells 65 _ i underlying65 rfl jF ?hgd ?ho ?hx ?_);(case hgd|ho|hx=>rfl))
  |fail)
 have a:=hid (k.mono l);clear i k q l
 refine(rD x _ j.out).mono ?_
 rintro e u ⟨⟨s,rfl,o⟩,f⟩;have d:=hid o;have b:=hid (a.trans (f.mono a.size));clear o f;go_wp2_with fail
 refine(Dv s _ (by rw[d.size];unfold tK;rw[List.length_append,beBytes_length,show x.hash.data.toList.length=x.hash.size from rfl];have:=j.n;omega)).mono ?_
 rintro e v ⟨⟨r,rfl,m⟩,g⟩;have h:=hid (show ah r (lG x)from m.cast (by unfold lG;rw[show s.data.toList= _ from d.out]));have c:=hid (b.trans (g.mono b.size));clear m g;go_wp2_with fail;go_ret;exact⟨⟨r,rfl,h.out⟩,c.out⟩
theorem zj (l:List bK):(hO l).length=l.length*2:=by
 induction l with
 |nil=>rfl
 |cons a r ih=>show(a.cells++hO r).length= _;rw[List.length_append,ih,List.length_cons];show 2+_= _;omega
theorem Iw (l:List bK):∀(j:Nat) (p:bK),l[j]?=some p→(hO l)[j*2]?=some (.int .i64 p.lba)∧(hO l)[j*2+1]?=some (.string p.hash):=by
 induction l with
 |nil=>intro j p h;simp at h
 |cons a r ih=>
  intro j p h;have b:a.cells.length=2:=rfl
  cases j with
  |zero=>simp at h;subst h;exact⟨rfl,rfl⟩
  |succ j=>
   have:=ih j p (by simpa using h)
   show(a.cells++hO r)[(j+1)*2]?= _∧(a.cells++hO r)[(j+1)*2+1]?= _
   rw[List.getElem?_append_right (by omega),List.getElem?_append_right (by omega),b,show(j+1)*2-2=j*2 by omega,show(j+1)*2+1-2=j*2+1 by omega];exact this
theorem CQ {w:World} {g:Nat} {l:List bK} {z:List Value} {t:TypeId} (h:ac w g (hO l++z) t) {m:Nat} {x:bK} (b:l[m]?=some x):w.rangeAt g (m*2) x.cells:=by
 have hl:=(List.getElem?_eq_some_iff.1 b).1;have a:=Iw l m x b;have c:=zj l;intro j u hu
 match j,hu with
 |0,hu=>simp[bK.cells]at hu;subst hu;exact h.cell (by rw[List.getElem?_append_left (by omega)];exact a.1)
 |1,hu=>simp[bK.cells]at hu;subst hu;exact h.cell (by rw[List.getElem?_append_left (by omega)];exact a.2)
 |j+2,hu=>simp[bK.cells]at hu
structure mA (l:List bK):Prop where
 each:∀(j:Nat) (x:bK),l[j]?=some x→zg x
 rise:∀(i j:Nat) (x y:bK),l[i]?=some x→l[j]?=some y→i<j→x.lba<y.lba
theorem j4 (x:bK):(lG x).length=32:=cT _
def gk (w:World) (p:Option Addr) (n:Nat) (l:List bK):Prop:=l.length=n∧(0<n→∃g z,p=some ⟨g,0,none⟩∧ac w g (hO l++z) 65)
theorem gk.below {w b:World} {p:Option Addr} {n:Nat} {l:List bK} (h:gk w p n l) (hb:Below w.heap.size w b):gk b p n l:=
 ⟨h.1,fun hn=>by obtain⟨g,z,c,a⟩:=h.2 hn;exact⟨g,z,c,a.below hb a.lt⟩⟩
theorem gk.own {w:World} {a n:Nat} {e:Value} {l:List bK} (h:w.ownsRow a 65 2 e n (hO l)) (hl:l.length=n):∃p c,e= .slice p n c∧gk w p n l:=by
 obtain⟨p,c,d⟩:=az h;refine⟨p,c,d,hl,fun hn=> ?_⟩;obtain⟨g,f,z,b,_,_,i⟩:=ba h hn;rw[d]at b
 injection b with b
 exact⟨g,z,b,i⟩
def zk (l:List bK) (k:Nat):Int:=if k=0 then -1 else(l.getD (k-1) ⟨0,⟨#[]⟩⟩).lba
theorem rE (p:Option Addr) (n c:Nat) (l:List bK) (w:World) (h:gk w p n l) (J:mA l) (hn:n≤4096):
  Calls prog 210 #[.slice p n c] w fun e w'=>e= .returned (.int .i64 0)∧Below w.heap.size w w':=by
 have N:=hid h;have s:=hid J;have B:=hid h.1;clear h J;go_enter func210,ntmps210;go_wp2_with fail;go_loopw [3,8] (fun T i wr=>∃k:Nat,k≤n∧i= .int .i64 k∧T= .int .i64 (zk l k)∧Hid (Below w.heap.size w wr)) (fun _ i _=>n-(intOf i).toNat)
 case atStart=>exact⟨0,Nat.zero_le _,rfl,rfl,hid (Below.refl _ _)⟩
 case round=>
  obtain⟨k,W,rfl,rfl,a⟩:=hrel
  by_cases Q:k<n
  ·have H:(k:Int)<(n:Int):=by omega
   obtain⟨g,z,hp,G⟩:=(N.below a.out).2 (by omega);subst hp;have M:=hid G;obtain⟨x,hx⟩:∃x,l[k]?=some x:=⟨_,List.getElem?_eq_getElem (by have:=B.out;omega)⟩;have C:=hid hx;have q:=hid (s.each k x hx)
   have t:zk l k<x.lba:=by
    unfold zk
    by_cases F:k=0
    ·rw[if_pos F];have:=q.l0;omega
    ·rw[if_neg F]
     obtain⟨y,hy⟩:∃y,l[k-1]?=some y:=⟨_,List.getElem?_eq_getElem (by have:=B.out;omega)⟩;rw[List.getD,hy];exact s.rise (k-1) k y x hy hx (by omega)
   obtain⟨wa,b⟩:∃wa,zk l k=wa:=⟨_,rfl⟩;rw[b]at t;have O:=hid b;rw[b];have P:¬x.lba≤wa:=by omega
   have u:=hid (CQ M.out C.out);clear b G hx t
   go_wp2_with (first
    |((with_reducible refine ao 65 (.tmp 10) g (k*2) x.cells _ (some 11) u.out underlying65 rfl jF ?hg ?ho ?hds ?hx ?_);(case ho|hg|hds|hx=>rfl))
    |((with_reducible refine ab 65 _ zi (some 5) ?hgd ?ho ?hd ?_);(case hgd|ho|hd=>rfl);(intro D X v A E V))
    |((with_reducible refine aa 65 (.tmp 5) (.tmp 11) D (bK.cells ⟨0,⟨#[]⟩⟩) x.cells 65 A rfl jF (zh _) ?hgd ?ho ?hx ?hy ?_);(case hgd|ho|hx|hy=>rfl);(intro U j I;have K:=j.cell (i:=0) rfl;have S:=j.cell (i:=1) rfl))
    |((with_reducible refine ao 65 (.tmp 5) D 0 x.cells _ (some 17) j.range underlying65 rfl jF ?hg ?ho ?hds ?hx ?_);(case ho|hg|hds|hx=>rfl))
    |fail)
   have m:=hid j;have d:=hid (show Below w.heap.size w U from I.below (a.trans (E.mono (Nat.le_trans a.size v))) (Nat.le_trans a.size v));clear A j E V I v K S
   refine(rD x _ q.out).mono ?_
   rintro e Y ⟨⟨r,rfl,L⟩,f⟩
   have R:(r.toList==([]:List UInt8))=false:=by
    rw[beq_eq_false_iff_ne,L.toList];intro e
    have:=congrArg List.length e
    unfold tK at this;rw[List.length_append,beBytes_length]at this;simp at this
   have K:=(m.below f m.lt).cell (i:=0) rfl;have o:=hid (d.trans (f.mono d.size));clear f L;go_wp2_with fail;go_roundw
   case rel=>exact⟨k+1,by omega,by go_num,by unfold zk;rw[if_neg (by omega),Nat.add_sub_cancel,List.getD,C.out];rfl,o⟩
   case measure=>simp[intOf];omega
  ·obtain rfl:k=n:=by omega
   go_wp2_with fail;go_ret;exact⟨rfl,a.out⟩
def eu (l:List bK):List ByteArray:=l.map fun x=>⟨(lG x).toArray⟩
theorem wH:(prog.info? 9).map (fun i=>(i.zero,i.size,i.bytes))=some (some (.string ⟨#[]⟩),1,16):=by kernel_rfl
theorem pW (p:Option Addr) (n c:Nat) (l:List bK) (w:World) (h:gk w p n l) (ok:mA l) (hn:n≤4096):
  Calls prog 211 #[.slice p n c] w fun e w'=>(∃y,e= .returned y∧w'.ownsRow w.heap.size 9 1 y n ((eu l).map .string))∧Below w.heap.size w w':=by
 obtain⟨i0,hi,L,M,N⟩:=info_parts wH;have HR:=hid h;have I:=hid ok;have R:=hid h.1;have s:=hid hn;clear h ok;go_enter func211,ntmps211;go_wp2_with fail;go_loopw [3,8] (fun y i wr=>∃k:Nat,k≤n∧i= .int .i64 k∧Hid (wr.ownsRow w.heap.size 9 1 y k ((eu (l.take k)).map .string))∧Hid (Below w.heap.size w wr)) (fun _ i _=>n-(intOf i).toNat)
 case atStart=>exact⟨0,Nat.zero_le _,rfl,hid (World.ownsRow_nil _ _ _ _),hid (Below.refl _ _)⟩
 case round=>
  obtain⟨k,hk,rfl,F,b⟩:=hrel
  by_cases a8:k<n
  ·have X:(k:Int)<(n:Int):=by omega
   obtain⟨g,z,hp,W⟩:=(HR.below b.out).2 (by omega);subst hp;have HG:=hid W;obtain⟨x,hx⟩:∃x,l[k]?=some x:=⟨_,List.getElem?_eq_getElem (by have:=R.out;omega)⟩;have S:=hid hx;have E:=hid (I.each k x hx);have J:=hid (CQ HG.out S.out);have C:=hid (show k+1≤maxLen from by have:=s.out;unfold maxLen;omega);have D:=hid (show(k+1)*16≤140737488355328 from by have:=s.out;omega);clear W hx;obtain⟨hs,q⟩:∃hs,(eu (l.take k)).map Value.string=hs:=⟨_,rfl⟩;rw[q]at F;have B:=hid q;clear q
   go_wp2_with (first
    |((with_reducible refine ao 65 (.tmp 10) g (k*2) x.cells _ (some 11) J.out underlying65 rfl jF ?hg ?ho ?hds ?hx ?_);(case ho|hg|hds|hx=>rfl))
    |((with_reducible refine ab 65 _ zi (some 5) ?hgd ?ho ?hd ?_);(case hgd|ho|hd=>rfl);(intro T w5 O P U z5))
    |((with_reducible refine aa 65 (.tmp 5) (.tmp 11) T (bK.cells ⟨0,⟨#[]⟩⟩) x.cells 65 P rfl jF (zh _) ?hgd ?ho ?hx ?hy ?_);(case hgd|ho|hx|hy=>rfl);(intro w6 Q o6))
    |((with_reducible refine aj 65 (.tmp 5) T x.cells 65 _ Q underlying65 rfl jF ?hgd ?ho ?hx ?_);(case hgd|ho|hx=>rfl))
    |fail)
   have m:Below wr.heap.size wr w6:=o6.below (U.mono O) O;have d:=hid (b.trans (m.mono b.size));have G:=hid (own_below m F.out);clear P Q U z5 o6 O m
   refine(Dw x _ E.out).mono ?_
   rintro e w7 ⟨⟨r,rfl,tr⟩,o⟩;have K:=hid tr;have f:=hid (d.trans (o.mono d.size));have H:=hid (own_below o G.out);clear o tr
   go_wp2_with (first
    |((with_reducible refine bi 45 9 1 ?parts15 [.string r] (.string ⟨#[]⟩) 1 16 (some 15) underlying45 wH (by omega) (by omega) ?hgd ?ho ?hd ?hf ?_);(case hgd|ho|hd=>rfl);(case hf=>kernel_rfl);(intro g8 w8 Z B8 V z8;have A:=hid B8;have a:=hid (f.out.trans (V.mono (Nat.le_trans f.out.size Z)));have t:=hid (own_below (V.mono Z) H.out)))
    |(at_builtin;refine wpList_append_own_wide _ rfl _ _ 45 rfl w.heap.size 9 i0 (.string ⟨#[]⟩) 1 16 underlying45 hi L M N rfl (by decide) _ k hs rfl t.out ⟨g8,0,none⟩ 1 1 [.string r] rfl rfl (bI A.out) (by intro v Y;simp at Y;subst Y;rfl) (by have:=C.out;exact this) (by have:=D.out;omega) a.size ?_;intro v' w9 u j ad)
    |fail)
   go_roundw
   case rel=>
    refine⟨k+1,by omega,by go_num,hid ?_,hid (dH a.out t.out j (Nat.le_refl _) a.size)⟩
    have he:(eu (l.take (k+1))).map Value.string=(eu (l.take k)).map Value.string++[.string r]:=by
     obtain⟨h1,h2⟩:=List.getElem?_eq_some_iff.1 S.out;unfold eu;rw[List.take_succ_eq_append_getElem h1,List.map_append,List.map_append,h2];simp only[List.map_cons,List.map_nil];rw[K.of]
    rw[he,B.out];exact u
   case measure=>simp[intOf];omega
  ·obtain rfl:k=n:=by omega
   go_wp2_with fail;go_ret;refine⟨⟨_,rfl, ?_⟩,b.out⟩
   have:=F.out
   rw[List.take_of_length_le (by rw[R.out];exact Nat.le_refl _)]at this;exact this
theorem Bn (s:ByteArray) (w:World) (h:s.size=32):
  Calls prog 293 #[.string s] w fun e w'=>e= .returned (.bool false)∧w=w':=by
 have a:(s.size:Int)=32:=by omega
 go_enter func293,ntmps293;go_wp2_with fail;go_ret
 first|exact⟨rfl,rfl⟩|exact⟨dX (by simp[a]),rfl⟩
theorem u5 (p:Option Addr) (n c:Nat) (xs:List ByteArray) (w:World) (h:w.ownsRow 0 9 1 (.slice p n c) n (xs.map .string)) (hl:xs.length=n) (l:∀x∈xs,x.size=32) (hn:n≤4096):
  Calls prog 309 #[.slice p n c, .func (.func 293) #[] #[]] w fun e w'=>e= .returned (.int .i64 (-1))∧w=w':=by
 have m:=hid h;have o:=hid l;have d:=hid hl;clear h l hl;go_enter func309,ntmps309;go_wp2_with fail;go_loopw [8] (fun i wr=>∃k:Nat,k≤n∧i= .int .i64 k∧wr=w) (fun i _=>n-(intOf i).toNat)
 case atStart=>exact⟨0,Nat.zero_le _,rfl,rfl⟩
 case round=>
  obtain⟨k,t,rfl,rfl⟩:=hrel
  by_cases s:k<n
  ·have j:(k:Int)<(n:Int):=by omega
   obtain⟨g,q,z,r,_,_,f⟩:=ba m.out (by omega)
   injection r with he1 _ he3
   subst he1;obtain⟨x,b⟩:∃x,xs[k]?=some x:=⟨_,List.getElem?_eq_getElem (by have:=d.out;omega)⟩;have hc:wr.cell? ⟨g,k,none⟩=some (.string x):=f.cell (by rw[List.getElem?_append_left (by rw[List.length_map];have:=d.out;omega),List.getElem?_map,b];rfl);have a:=o.out x (List.mem_of_getElem? b);clear f b he3;go_wp2_with fail
   refine(Bn x _ a).mono ?_
   rintro e w' ⟨rfl,rfl⟩;go_wp2_with fail;go_roundw
   case rel=>exact⟨k+1,by omega,by go_num,by first|rfl|trivial⟩
   case measure=>simp[intOf];omega
  ·obtain rfl:k=n:=by omega
   go_wp2_with fail;go_ret;exact⟨rfl,rfl⟩
theorem tM (p:Option Addr) (n c:Nat) (xs:List ByteArray) (w:World) (h:w.ownsRow 0 9 1 (.slice p n c) n (xs.map .string)) (hl:xs.length=n) (a:∀x∈xs,x.size=32) (hn:n≤4096):
  Calls prog 265 #[.slice p n c] w fun e w'=>e= .returned (.bool true)∧w=w':=by
 go_enter func265,ntmps265;go_wp2_with fail;refine Calls.mono (show Calls prog 292 #[.slice p n c, .func (.func 293) #[] #[]] _ (fun e w'=>e= .returned (.bool false)∧w=w')from ?_) ?_
 ·go_enter func292,ntmps292
  go_wp2_with fail
  refine(u5 p n c xs _ h hl a hn).mono ?_
  rintro e w' ⟨rfl,rfl⟩;go_wp2_with fail;go_ret;exact⟨rfl,rfl⟩
 rintro e w' ⟨rfl,rfl⟩;go_wp2_with fail;go_ret;exact⟨rfl,rfl⟩
end Go.Proofs.YtadooplpfhdhcaaGreat
