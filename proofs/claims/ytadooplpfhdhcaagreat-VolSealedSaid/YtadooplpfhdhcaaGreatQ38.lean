/- A place's proof is held against a root (chapter 16): proof.Tells, where it is right. What a right proof tells (chapter 16): proof.Tells. The sealed records, and the secrets (chapter 26): Sealed, Secrets. Walk of Few of chapter 24 at one call. -/
import Derived.Test.YtadooplpfhdhcaaGreatQ36
import Derived.Test.YtadooplpfhdhcaaGreatQ13
import Derived.Test.YtadooplpfhdhcaaGreatQ14
import Derived.Test.YtadooplpfhdhcaaGreatQ18
import Derived.Test.YtadooplpfhdhcaaGreatQ31
import Derived.Test.YtadooplpfhdhcaaGreatQ2
import Derived.Deep.DeepAppendWide
import Derived.Deep.RegionWith
import Derived.Deep.QuietTactic
import Derived.BigQuiet
import Derived.Test.YtadooplpfhdhcaaGreatQ7
set_option linter.unusedSimpArgs false
set_option linter.unusedVariables false
set_option maxRecDepth 100000
set_option maxHeartbeats 4000000
namespace Go.Proofs.YtadooplpfhdhcaaGreat
open Go Go.RowKit Go.Maps Go.WideMaps
open Go.Lib (hid)
open Go.Proofs.Tryz
def fX (root:ByteArray) (n:Int):List Value:=[.string root, .int .i64 n]
theorem Ld (w:World):(zeroValue 138).run prog w= .ok (.agg (fX ⟨#[]⟩ 0).toArray) w:=by kernel_rfl
theorem oQ {r:ByteArray} {n:Int}:(prog.info? 138).map (·.size)=some (fX r n).length:=by kernel_rfl
theorem LX (r:ByteArray) (n:Int):∀x∈fX r n,x.oneCell'=true:=by
 intro x a;simp only[fX,List.mem_cons,List.mem_nil_iff,or_false]at a;rcases a with rfl|rfl<;>rfl
theorem rn (p:Option Addr) (c:Nat) (w:World):
  Calls prog 140 #[.agg ap.none.cells.toArray, .slice p 0 c] w fun e w'=>e= .returned (.bool true)∧Below w.heap.size w w':=by
 have d:∀w,(binOp .eql 65 (.agg #[.int .i64 0, .string ⟨#[]⟩]) (.agg #[.int .i64 0, .string ⟨#[]⟩])).run prog w= .ok (.bool true) w:=fun w=>by kernel_rfl
 go_enter func140,ntmps140
 go_wp2_with (first
  |((with_reducible refine ae 65 (.tmp 0) [.int .i64 0, .string ⟨#[]⟩] (some 2) ?hgd ?ho ?hd ?hx ?_);(case hgd|ho|hd|hx=>rfl);(intro g k f a b l;have h:=a.cell (i:=0) rfl;have j:=a.cell (i:=1) rfl))
  |fail)
 go_ret;exact⟨rfl,b.mono f⟩
theorem rq (root:ByteArray) (b i:Nat) (x:ap) (u:Value) (s:List ByteArray) (w:World) (hu:w.ownsRow 0 9 1 u s.length (s.map .string)) (hx:mJ x) (N:b≤4096) (O:i<b) (D:∀y∈s,y.size=32) (P:s.length≤4096) (Y:cT b b i ⟨(f7 x).toArray⟩ s=some root):
  Calls prog 141 #[.agg (fX root b).toArray, .int .i64 (i:Int), .agg x.cells.toArray,u] w fun e w'=>e= .returned (.bool true)∧Below w.heap.size w w':=by
 have HU:=hid hu;have U:=hid hx;have HR:=hid Y;have H:=hid D;obtain⟨pu,cu,Q⟩:=aD hu;subst Q;clear hu hx Y D;go_enter func141,ntmps141
 go_upto_region 1 with(first
  |((with_reducible refine ae 138 (.tmp 0) (fX root b) (some 4) ?hgd ?ho ?hd ?hx ?_);(case hgd|ho|hd|hx=>rfl);(intro V w1 Z R W z1))
  |((with_reducible refine ae 65 (.tmp 2) x.cells (some 6) ?hgd ?ho ?hd ?hx ?_);(case hgd|ho|hd|hx=>rfl);(intro M w2 l2 S X z2))
  |fail)
 have q:Below w1.heap.size w1 w2:=X.mono l2;have G:=hid (R.below q z1);have J:=hid S;have T:=hid ((W.mono Z).trans (q.mono (by omega)));clear R S W X Z l2 z1 z2 q;refine hb (fun F=>F.rangeAt M 0 x.cells∧F.cell? ⟨V,0,none⟩=some (.string root)∧F.cell? ⟨V,1,none⟩=some (.int .i64 (b:Int))) ⟨J.drew.range,G.drew.cell (i:=0) rfl,G.drew.cell (i:=1) rfl⟩ fun a=> ?_
 obtain⟨wd,l⟩:∃y,y=w2.drew:=⟨_,rfl⟩;have k:Below w2.heap.size w2 wd:=by rw[l];exact(Below.refl _ _).drew
 have A:=hid (G.below k G.lt);have B:=hid (J.below k J.lt);have v:=hid (T.trans (k.mono T.size));rw[←l];rw[←l]at a;clear l k;refine hl 0 65 M 0 x.cells (fun F h=>h.1) underlying65 bX ?_;refine hc 1 fun K m=> ?_
 go_simp
 refine(nR x _ U.out).mono ?_
 rintro e w3 ⟨⟨r,rfl,tr⟩,f⟩
 have a1:(r.toList==([]:List UInt8))=false:=by
  rw[beq_eq_false_iff_ne,tr.toList];intro e
  have:=congrArg List.length e
  unfold rK at this;rw[List.length_append,beBytes_length]at this;simp at this
 have c:=hid (A.below f A.lt);have o:=hid (B.below f B.lt);have t:=hid (v.trans (f.mono v.size));clear f tr
 (try go_wp2_with fail)
 refine m.out _ _ ⟨o.range,c.cell (i:=0) rfl,c.cell (i:=1) rfl⟩ fun _=> ?_
 clear m K a;rename_i a
 (try go_frame)
 refine hp 2 ?_;refine hp 3 ?_;refine hp 4 ?_;refine hp 5 ?_;refine hp 6 ?_;refine hp 7 ?_;refine hp 8 ?_;refine hl 9 65 M 0 x.cells (fun F h=>h.1) underlying65 bX ?_;refine hp 11 ?_;refine hc 10 fun K m=> ?_
 go_simp
 refine(uw x _ U.out).mono ?_
 rintro e w4 ⟨⟨hs,rfl,E⟩,g⟩;have C:=hid E;have d:=hid (c.below g c.lt);have p:=hid (o.below g o.lt);have n:=hid (t.trans (g.mono t.size));clear g E
 (try go_wp2_with fail)
 refine m.out _ _ ⟨p.range,d.cell (i:=0) rfl,d.cell (i:=1) rfl⟩ fun _=> ?_
 clear m K a;rename_i a
 (try go_frame)
 refine hc 12 fun K m=> ?_
 go_simp
 refine(DD b i hs _ s root _ (own_below n.out HU.out) N O H.out P (by rw[C.size];exact gj x) (by rw[C.of];exact HR.out)).mono ?_
 rintro e w5 ⟨rfl,j⟩;have z:=hid (d.below j d.lt);have L:=hid (p.below j p.lt);have I:=hid (n.trans (j.mono n.size));clear j
 (try go_wp2_with fail)
 refine m.out _ _ ⟨L.range,z.cell (i:=0) rfl,z.cell (i:=1) rfl⟩ fun _=> ?_
 clear m K a;rename_i a
 (try go_frame)
 refine hp 13 ?_;refine hp 14 ?_;refine hd ?_;clear a;go_wp2_with fail;go_ret;exact⟨rfl,I.out⟩
structure kD (w:World) (u v:Value) (P:lH):Prop where
 up:w.ownsRow 0 9 1 u P.up.length (P.up.map .string)
 left:w.ownsRow 0 9 1 v P.left.length (P.left.map .string)
theorem kD.below {w a:World} {u v:Value} {P:lH} (h:kD w u v P) (hb:Below w.heap.size w a):kD a u v P:=⟨own_below hb h.up,own_below hb h.left⟩
def lH.L (P:lH) (u v:Value):List Value:=bj P.found P.pos P.here P.ahead u v
theorem gU {w:World} {b:Nat} {f:Bool} {n:Int} {x a:ap} {u v:Value} {t:TypeId} (h:ac w b (bj f n x a u v) t) (o:Nat) {y:ap} (c:(o=2∧y=x)∨(o=4∧y=a)):w.rangeAt b o y.cells:=by
 rcases c with⟨rfl,rfl⟩|⟨rfl,rfl⟩
 ·intro j u hu
  match j,hu with
  |0,hu=>simp[ap.cells]at hu;subst hu;exact h.cell (i:=2) rfl
  |1,hu=>simp[ap.cells]at hu;subst hu;exact h.cell (i:=3) rfl
  |j+2,hu=>simp[ap.cells]at hu
 ·intro j u hu
  match j,hu with
  |0,hu=>simp[ap.cells]at hu;subst hu;exact h.cell (i:=4) rfl
  |1,hu=>simp[ap.cells]at hu;subst hu;exact h.cell (i:=5) rfl
  |j+2,hu=>simp[ap.cells]at hu
theorem A1 (root:ByteArray) (a:Nat) (lba:Int) (P:lH) (u v:Value) (w:World) (hu:kD w u v P) (r:mO root a lba P) (B:P.found=true) (an:a≤4095):
  Calls prog 64 #[.agg (fX root a).toArray, .int .i64 lba, .agg (P.L u v).toArray] w fun e w'=>e= .returned (.bool true)∧Below w.heap.size w w':=by
 have Y:=hid hu.up;have J:=hid r;obtain⟨pu,cu,j⟩:=aD hu.up;subst j;obtain⟨T,M,j⟩:=aD hu.left;subst j;obtain⟨b,o,l,p⟩:=r.found B;obtain⟨q,n,_⟩:=r.here b;have A:=hid q;have z:=hid n;have X:=hid b;obtain⟨F,s,c,U,ah,ll⟩:=P;simp only at B o l p b;subst B l p;have C:(s:Int)<(a:Int):=by omega
 have D:decide (s<a)=true:=decide_eq_true b;have Q:(c.lba==lba)=true:=beq_iff_eq.2 o;clear hu r q n;go_enter func64,ntmps64
 go_upto_region 1 with(first
  |((with_reducible refine ae 138 (.tmp 0) (fX root a) (some 3) ?hgd ?ho ?hd ?hx ?_);(case hgd|ho|hd|hx=>rfl);(intro Z V R G N W))
  |((with_reducible refine ae 68 (.tmp 2) (bj true s c ap.none (.slice pu U.length cu) (.slice T 0 M)) (some 5) ?hgd ?ho ?hd ?hx ?_);(case hgd|ho|hd|hx=>rfl);(intro K w2 S H O z2))
  |fail)
 have h:Below V.heap.size V w2:=O.mono S;have x:=hid (G.below h W);have k:=hid H;have I:=hid ((N.mono R).trans (h.mono (by omega)));clear G H N O R S W z2 h;have E:=k.cell (i:=1) rfl;have x2:=k.cell (i:=2) rfl;have x7:=k.cell (i:=7) rfl;have y1:=x.cell (i:=1) rfl
 go_wp2_with (first
  |((with_reducible refine ag 65 (.tmp 20) K 4 ap.none.cells _ (some 21) (gU k.out 4 (.inr ⟨rfl,rfl⟩)) underlying65 rfl bX ?hg ?ho ?hds ?hx ?_);(case ho|hg|hds|hx=>rfl))
  |fail)
 refine(rn T M _).mono ?_
 rintro e w3 ⟨rfl,d⟩;have y:=hid (x.below d x.lt);have g:=hid (k.below d k.lt);have f:=hid (I.trans (d.mono I.size));clear d E x2 x7 y1;have E:=g.cell (i:=1) rfl;have x6:=g.cell (i:=6) rfl
 go_wp2_with (first
  |((with_reducible refine ag 138 (.tmp 3) Z 0 (fX root a) _ (some 27) (y.out.range) underlying138 rfl oQ ?hg ?ho ?hds ?hx ?_);(case ho|hg|hds|hx=>rfl))
  |((with_reducible refine ag 65 (.tmp 30) K 2 c.cells _ (some 31) (gU g.out 2 (.inl ⟨rfl,rfl⟩)) underlying65 rfl bX ?hg ?ho ?hds ?hx ?_);(case ho|hg|hds|hx=>rfl))
  |fail)
 refine(rq root a s c _ U _ (own_below f.out Y.out) A.out (by omega) b J.up32 (by have:=J.upL;simp only at this;omega) z.out).mono ?_
 rintro e w4 ⟨rfl,m⟩;have t:=hid (f.trans (m.mono f.size));clear m E x6;go_wp2_with fail;go_ret;exact⟨rfl,t.out⟩
theorem lJ (n:Int) (p:Option Addr) (c:Nat) (x:Bool) (k:Value) (w:World):
  Calls prog 142 #[.bool false, .int .i64 n, .agg ap.none.cells.toArray, .slice p 0 c, .bool x,k] w fun e w'=>e= .returned (.bool true)∧Below w.heap.size w w':=by
 go_enter func142,ntmps142
 go_wp2_with (first
  |((with_reducible refine ae 65 (.tmp 2) ap.none.cells (some 8) ?hgd ?ho ?hd ?hx ?_);(case hgd|ho|hd|hx=>rfl);(intro j m h d g l;have i:=hid d))
  |((with_reducible refine ag 65 (.tmp 8) j 0 ap.none.cells _ (some 14) (i.out.range) underlying65 rfl bX ?hg ?ho ?hds ?hx ?_);(case ho|hg|hds|hx=>rfl))
  |fail)
 have f:=hid (g.mono h);clear d g h l
 refine(rn p c _).mono ?_
 rintro e o ⟨rfl,a⟩;have b:=hid (f.trans (a.mono f.size));clear a;go_wp2_with fail;go_ret;exact⟨rfl,b.out⟩
structure u9 (root:ByteArray) (cnt i:Nat) (x:ap) (ul:List ByteArray):Prop where
 ok:mJ x
 lt:i<cnt
 h32:∀y∈ul,y.size=32
 len:ul.length≤4096
 cl:cT cnt cnt i ⟨(f7 x).toArray⟩ ul=some root
theorem kE (root:ByteArray) (b i:Nat) (x:ap) (u:Value) (d:List ByteArray) (o:Nat) (w:World) (hu:w.ownsRow 0 9 1 u d.length (d.map .string)) (p:ac w o [.func (.func 141) #[.agg (fX root b).toArray] #[]] 217) (q:u9 root b i x d) (j:b≤4096):
  Calls prog 142 #[.bool true, .int .i64 (i:Int), .agg x.cells.toArray,u, .bool true, .pointer (some ⟨o,0,none⟩)] w fun e w'=>e= .returned (.bool true)∧Below w.heap.size w w':=by
 have t:=hid hu;have a:=hid q;have n:=hid p;obtain⟨B,A,k⟩:=aD hu;subst k;clear hu q p;go_enter func142,ntmps142
 go_wp2_with (first
  |((with_reducible refine ae 65 (.tmp 2) x.cells (some 8) ?hgd ?ho ?hd ?hx ?_);(case hgd|ho|hd|hx=>rfl);(intro v C l m h z;have s:=hid m;have r:=hid (n.out.below (h.mono l) n.out.lt);have y:=r.out.cell (i:=0) rfl))
  |((with_reducible refine ag 65 (.tmp 8) v 0 x.cells _ (some 21) (s.out.range) underlying65 rfl bX ?hg ?ho ?hds ?hx ?_);(case ho|hg|hds|hx=>rfl))
  |fail)
 have f:=hid (h.mono l);clear m h l z y
 refine(rq root b i x _ d _ (own_below f.out t.out) a.ok j a.lt a.h32 a.len a.cl).mono ?_
 rintro e D ⟨rfl,c⟩;have g:=hid (f.trans (c.mono f.size));clear c;go_wp2_with fail;go_ret;exact⟨rfl,g.out⟩
structure pU (w:World) (b3 b5 b7:Nat) (root:ByteArray) (cnt:Nat) (L:List Value) (wx:World):Prop where
 chk:ac wx b3 (fX root cnt) 138
 prf:ac wx b5 L 68
 fn:ac wx b7 [.func (.func 141) #[.agg (fX root cnt).toArray] #[]] 217
 bel:Below w.heap.size w wx
theorem pU.below {w:World} {c d e:Nat} {root:ByteArray} {a:Nat} {L:List Value} {b wy:World} (h:pU w c d e root a L b) (hb:Below b.heap.size b wy):pU w c d e root a L wy:=
 ⟨h.chk.below hb h.chk.lt,h.prf.below hb h.prf.lt,h.fn.below hb h.fn.lt,h.bel.trans (hb.mono h.bel.size)⟩
theorem DF (root:ByteArray) (b:Nat) (lba:Int) (P:lH) (u v:Value) (w:World) (hu:kD w u v P) (hR:mO root b lba P) (hf:P.found=false) (cf:b≤4095):
  Calls prog 65 #[.agg (fX root b).toArray, .int .i64 lba, .agg (P.L u v).toArray] w fun e w'=>e= .returned (.bool true)∧Below w.heap.size w w':=by
 have HU:=hid hu;have o:=hid hR;have cg:∀(fn:Fn) (first W:Array Value) (w:World),(Instr.makeFunc fn first W).run prog w= .ok (.func fn first W) w:=fun _ _ _ _=>rfl
 obtain⟨pu,cu,S⟩:=aD hu.up;subst S;obtain⟨pv,cv,S⟩:=aD hu.left;subst S;obtain⟨F,c,l,ul,z,U⟩:=P;simp only at hf;subst hf;have ck:c≤4095:=by have:=hR.pos;simp only at this;omega
 clear hu hR;go_enter func65,ntmps65
 go_upto_region 3 with(first
  |((with_reducible refine ae 138 (.tmp 0) (fX root b) (some 3) ?hgd ?ho ?hd ?hx ?_);(case hgd|ho|hd|hx=>rfl);(intro C w1 l1 B1 e1 z1))
  |((with_reducible refine ae 68 (.tmp 2) (bj false c l z (.slice pu ul.length cu) (.slice pv U.length cv)) (some 5) ?hgd ?ho ?hd ?hx ?_);(case hgd|ho|hd|hx=>rfl);(intro A w2 l2 B2 e2 z2;have B:=hid (B1.below (e2.mono l2) z1)))
  |((with_reducible refine ag 138 (.tmp 3) C 0 (fX root b) _ (some 9) (B.out.range) underlying138 rfl oQ ?hg ?ho ?hds ?hx ?_);(case ho|hg|hds|hx=>rfl))
  |((with_reducible refine dS 217 (.tmp 7) (.tmp 10) w2.heap.size 0 (.func (.func 141) #[.agg (fX root b).toArray] #[]) _ _ (ac.new w2 [.nilFunc] 217) (Nat.le_of_ble_eq_true rfl) (by kernel_rfl) rfl ?hgd ?ho ?hx ?hy ?_);(case hgd|ho|hx|hy=>rfl);(intro wa B3 o3))
  |fail)
 have aq:w.heap.size≤w2.heap.size:=by omega
 have Y:Below w.heap.size w w2:=(e1.mono l1).trans (e2.mono (by omega));have D:Below w2.heap.size w2 wa:=o3.below ((Below.refl _ _).alloc (Nat.le_refl _) _) (Nat.le_refl _);obtain⟨b7,M⟩:∃b7,w2.heap.size=b7:=⟨_,rfl⟩;rw[M]at B3;rw[M];have T:=hid (show pU w C A b7 root b _ wa from⟨B.below D B.lt,B2.below D B2.lt,B3,Y.trans (D.mono aq)⟩);clear B1 B2 B e1 e2 l1 l2 z1 z2 B3 o3 aq Y D M
 (try go_frame)
 go_cut [20]from 12 to 20 (fun x wd=>x= .bool false∧Hid (pU w C A b7 root b (bj false c l z (.slice pu ul.length cu) (.slice pv U.length cv)) wd))
 case first=>
  by_cases ad:b=0
  ·have hz:((b:Int)==0)=true:=beq_iff_eq.2 (by omega)
   have HZ:=hid (o.zero ad);clear ad;refine hb (fun wx=>wx.cell? ⟨C,0,none⟩=some (.string root)∧wx.cell? ⟨C,1,none⟩=some (.int .i64 (b:Int))) ⟨T.chk.drew.cell (i:=0) rfl,T.chk.drew.cell (i:=1) rfl⟩ fun d=> ?_
   obtain⟨wd,m⟩:∃y,y=wa.drew:=⟨_,rfl⟩;have J:=hid (show pU w C A b7 root b _ wd from by rw[m];exact T.below (Below.refl _ _).drew);rw[←m];rw[←m]at d;clear m;refine hp 0 ?_;refine hp 1 ?_;refine hp 2 ?_;refine hp 3 ?_;refine hp 4 ?_;refine hp 5 ?_;refine hc 6 fun K hK=> ?_
   go_simp
   refine(sR none 0 _).mono ?_
   rintro e w6 ⟨r,rfl,tr,Z⟩;obtain rfl:root=r:=HZ.trans tr.of.symm;have I:=hid (J.below Z);have cl:(root.toList==root.toList)=true:=beq_self_eq_true _;clear Z tr
   (try go_wp2_with fail)
   refine hK.out _ _ ⟨I.chk.cell (i:=0) rfl,I.chk.cell (i:=1) rfl⟩ fun _=> ?_
   clear hK K d;rename_i d
   (try go_frame)
   refine hp 7 ?_;refine hp 8 ?_;refine hd ?_;clear d
   (try go_wp2_with fail)
   all_goals go_meet
   exact⟨rfl,I.out⟩
  ·have hz:((b:Int)==0)=false:=beq_eq_false_iff_ne.2 (by omega)
   have co:¬(b:Int)=0:=by omega
   refine hb (fun wx=>wx.cell? ⟨C,0,none⟩=some (.string root)∧wx.cell? ⟨C,1,none⟩=some (.int .i64 (b:Int))) ⟨T.chk.drew.cell (i:=0) rfl,T.chk.drew.cell (i:=1) rfl⟩ fun d=> ?_
   obtain⟨wd,m⟩:∃y,y=wa.drew:=⟨_,rfl⟩;have J:=hid (show pU w C A b7 root b _ wd from by rw[m];exact T.below (Below.refl _ _).drew);rw[←m];rw[←m]at d;clear m;refine hp 0 ?_;refine hp 1 ?_;refine hp 2 ?_;refine hp 3 ?_;refine hn 4 ?_;refine hn 5 ?_;refine hn 6 ?_;refine hn 7 ?_;refine hp 8 ?_;refine hd ?_;clear d
   (try go_wp2_with fail)
   all_goals go_meet
   exact⟨rfl,J.out⟩
 case rest=>
  obtain⟨rfl,X⟩:=hcut;have k:=hid X.out;clear X;have V:=k.prf.cell (i:=1) rfl;have x2:=k.prf.cell (i:=2) rfl;have x6:=k.prf.cell (i:=6) rfl;have y1:=k.chk.cell (i:=1) rfl
  by_cases t:c<b
  ·have a0:(c:Int)<(b:Int):=by omega
   have a1:decide (c<b)=true:=decide_eq_true t;obtain⟨O,N,aA⟩:=o.here t;have f:=aA rfl;simp only at O N f;have G:decide (lba<l.lba)=true:=decide_eq_true f;have bb:=hid (show u9 root b c l ul from⟨O,t,o.up32,by have:=o.upL;simp only at this;omega,N⟩);clear O N aA
   go_wp2_with (first
    |((with_reducible refine ag 65 (.tmp 29) A 2 l.cells _ (some 30) (gU k.out.prf 2 (.inl ⟨rfl,rfl⟩)) underlying65 rfl bX ?hg ?ho ?hds ?hx ?_);(case ho|hg|hds|hx=>rfl))
    |fail)
   refine(kE root b c l _ ul b7 _ (own_below k.bel HU.up) k.fn bb.out (by omega)).mono ?_
   rintro e w8 ⟨rfl,q⟩;have a:=hid (k.below q);clear q V x2 x6 y1
   by_cases E:0<c
   ·have V:=a.prf.cell (i:=1) rfl
    have x4:=a.prf.cell (i:=4) rfl;have x7:=a.prf.cell (i:=7) rfl;have Q:(0:Int)<(c:Int):=by omega
    have R:decide (0<c)=true:=decide_eq_true E;obtain⟨j,h,f⟩:=o.ahead rfl E;simp only at j h f;have G:decide (z.lba<lba)=true:=decide_eq_true f;have bl:IntKind.i64.wrap ((c:Int)-1)=((c-1:Nat):Int):=by rw[IntKind.wrap_i64];omega
    have bm:wrap64 ((c:Int)-1)=((c-1:Nat):Int):=by rw[IntWalk.wrap64_in _ (by omega)];omega
    have H:=hid (show u9 root b (c-1) z U from⟨j,by have:=o.pos;simp only at this;omega,o.left32,by have:=o.leftL;simp only at this;omega,h⟩);clear j h
    go_wp2_with (first
     |((with_reducible refine ag 65 (.tmp 47) A 4 z.cells _ (some 48) (gU a.out.prf 4 (.inr ⟨rfl,rfl⟩)) underlying65 rfl bX ?hg ?ho ?hds ?hx ?_);(case ho|hg|hds|hx=>rfl))
     |fail)
    (try rw[show((c:Int)-1)=((c-1:Nat):Int) by omega])
    refine(kE root b (c-1) z _ U b7 _ (own_below a.bel HU.left) a.fn H.out (by omega)).mono ?_
    rintro e w9 ⟨rfl,g⟩;have n:=hid (a.bel.trans (g.mono a.bel.size));clear g;go_wp2_with fail;go_ret;exact⟨rfl,n.out⟩
   ·have V:=a.prf.cell (i:=1) rfl
    have x4:=a.prf.cell (i:=4) rfl;have x7:=a.prf.cell (i:=7) rfl;have Q:¬(0:Int)<(c:Int):=by omega
    have R:decide (0<c)=false:=decide_eq_false E;obtain⟨p,s⟩:=o.noAhead rfl E;simp only at p s;subst p s
    go_wp2_with (first
     |((with_reducible refine ag 65 (.tmp 47) A 4 ap.none.cells _ (some 48) (gU a.out.prf 4 (.inr ⟨rfl,rfl⟩)) underlying65 rfl bX ?hg ?ho ?hds ?hx ?_);(case ho|hg|hds|hx=>rfl))
     |fail)
    refine(lJ _ pv cv _ _ _).mono ?_
    rintro e w9 ⟨rfl,g⟩;have n:=hid (a.bel.trans (g.mono a.bel.size));clear g;go_wp2_with fail;go_ret;exact⟨rfl,n.out⟩
  ·have a0:¬(c:Int)<(b:Int):=by omega
   have a1:decide (c<b)=false:=decide_eq_false t;obtain⟨an,a2⟩:=o.noHere t;simp only at an a2;subst an a2
   go_wp2_with (first
    |((with_reducible refine ag 65 (.tmp 29) A 2 ap.none.cells _ (some 30) (gU k.out.prf 2 (.inl ⟨rfl,rfl⟩)) underlying65 rfl bX ?hg ?ho ?hds ?hx ?_);(case ho|hg|hds|hx=>rfl))
    |fail)
   refine(lJ _ pu cu _ _ _).mono ?_
   rintro e w8 ⟨rfl,q⟩;have a:=hid (k.below q);clear q V x2 x6 y1
   by_cases E:0<c
   ·have V:=a.prf.cell (i:=1) rfl
    have x4:=a.prf.cell (i:=4) rfl;have x7:=a.prf.cell (i:=7) rfl;have Q:(0:Int)<(c:Int):=by omega
    have R:decide (0<c)=true:=decide_eq_true E;obtain⟨j,h,f⟩:=o.ahead rfl E;simp only at j h f;have G:decide (z.lba<lba)=true:=decide_eq_true f;have bl:IntKind.i64.wrap ((c:Int)-1)=((c-1:Nat):Int):=by rw[IntKind.wrap_i64];omega
    have bm:wrap64 ((c:Int)-1)=((c-1:Nat):Int):=by rw[IntWalk.wrap64_in _ (by omega)];omega
    have H:=hid (show u9 root b (c-1) z U from⟨j,by have:=o.pos;simp only at this;omega,o.left32,by have:=o.leftL;simp only at this;omega,h⟩);clear j h
    go_wp2_with (first
     |((with_reducible refine ag 65 (.tmp 47) A 4 z.cells _ (some 48) (gU a.out.prf 4 (.inr ⟨rfl,rfl⟩)) underlying65 rfl bX ?hg ?ho ?hds ?hx ?_);(case ho|hg|hds|hx=>rfl))
     |fail)
    (try rw[show((c:Int)-1)=((c-1:Nat):Int) by omega])
    refine(kE root b (c-1) z _ U b7 _ (own_below a.bel HU.left) a.fn H.out (by omega)).mono ?_
    rintro e w9 ⟨rfl,g⟩;have n:=hid (a.bel.trans (g.mono a.bel.size));clear g;go_wp2_with fail;go_ret;exact⟨rfl,n.out⟩
   ·have V:=a.prf.cell (i:=1) rfl
    have x4:=a.prf.cell (i:=4) rfl;have x7:=a.prf.cell (i:=7) rfl;have Q:¬(0:Int)<(c:Int):=by omega
    have R:decide (0<c)=false:=decide_eq_false E;obtain⟨p,s⟩:=o.noAhead rfl E;simp only at p s;subst p s
    go_wp2_with (first
     |((with_reducible refine ag 65 (.tmp 47) A 4 ap.none.cells _ (some 48) (gU a.out.prf 4 (.inr ⟨rfl,rfl⟩)) underlying65 rfl bX ?hg ?ho ?hds ?hx ?_);(case ho|hg|hds|hx=>rfl))
     |fail)
    refine(lJ _ pv cv _ _ _).mono ?_
    rintro e w9 ⟨rfl,g⟩;have n:=hid (a.bel.trans (g.mono a.bel.size));clear g;go_wp2_with fail;go_ret;exact⟨rfl,n.out⟩
def lH.told (P:lH):ByteArray:=if P.found=true then P.here.hash else⟨#[]⟩
theorem A2 (root:ByteArray) (cnt:Nat) (lba:Int) (P:lH) (u v:Value) (w:World) (hu:kD w u v P) (x:mO root cnt lba P) (n:cnt≤4095) (V:0≤lba) (W:lba≤4095):
  Calls prog 19 #[.string root, .int .i64 (cnt:Int), .int .i64 lba, .agg (P.L u v).toArray] w fun e w'=>e= .returned (.tuple #[.string P.told, .bool P.found, .int .i64 0])∧Below w.heap.size w w':=by
 have E:=hid hu;have D:=hid x;obtain⟨z,s,k⟩:=aD hu.up;subst k;obtain⟨A,t,k⟩:=aD hu.left;subst k;obtain⟨F,f,a,p,m,o⟩:=P;have X:f≤cnt:=x.pos;have Q:¬(cnt:Int)<0:=by omega
 have R:¬(4096:Int)<(cnt:Int):=by omega
 have S:¬(f:Int)<0:=by omega
 have T:¬(cnt:Int)<(f:Int):=by omega
 have U:decide (cnt<f)=false:=decide_eq_false (by omega);clear hu x;go_enter func19,ntmps19
 go_upto_region 2 with(first
  |((with_reducible refine ae 68 (.tmp 3) (bj F f a m (.slice z p.length s) (.slice A o.length t)) (some 7) ?hgd ?ho ?hd ?hx ?_);(case hgd|ho|hd|hx=>rfl);(intro G M J q H Z))
  |((with_reducible refine ab 138 (fX ⟨#[]⟩ 0) Ld (some 11) ?hgd ?ho ?hd ?_);(case hgd|ho|hd=>rfl);(intro h w2 y B I z2))
  |((with_reducible refine aa 138 (.tmp 11) (.tmp 14) h (fX ⟨#[]⟩ 0) (fX root cnt) 138 B rfl oQ (LX _ _) ?hgd ?ho ?hx ?hy ?_);(case hgd|ho|hx|hy=>rfl);(intro w3 C K))
  |fail)
 have j:Below M.heap.size M w3:=K.below (I.mono y) y;have c:=hid (q.below j q.lt);have l:=hid C;have b:=hid ((H.mono J).trans (j.mono (by omega)));clear q B C H I J y Z z2 K j;go_wp2_with fail
 refine(nQ lba _ V W).mono ?_
 rintro e w' ⟨rfl,rfl⟩;have N:=c.cell (i:=0) rfl;have O:=c.cell (i:=1) rfl
 cases F with
 |true=>
  go_wp2_with (first
   |((with_reducible refine ag 138 (.tmp 11) h 0 (fX root cnt) _ (some 41) (l.out.range) underlying138 rfl oQ ?hg ?ho ?hds ?hx ?_);(case ho|hg|hds|hx=>rfl))
   |((with_reducible refine ag 68 (.tmp 7) G 0 (bj true f a m (.slice z p.length s) (.slice A o.length t)) _ (some 43) (c.out.range) underlying68 rfl dD ?hg ?ho ?hds ?hx ?_);(case ho|hg|hds|hx=>rfl))
   |fail)
  refine(A1 root cnt lba ⟨true,f,a,p,m,o⟩ _ _ _ (E.below b.out) D.out rfl n).mono ?_
  rintro e Y ⟨rfl,d⟩;have g:=hid (b.trans (d.mono b.size));have r:=hid (c.below d c.lt);clear d N O;have x3:=r.cell (i:=3) rfl;go_wp2_with fail
  (try simp only[Exit.inBlock,Exit.then]);refine bodyPost_ret (results_tmp3 rfl _ _ _) rfl ⟨rfl,g.out⟩
 |false=>
  go_wp2_with (first
   |((with_reducible refine ag 138 (.tmp 11) h 0 (fX root cnt) _ (some 54) (l.out.range) underlying138 rfl oQ ?hg ?ho ?hds ?hx ?_);(case ho|hg|hds|hx=>rfl))
   |((with_reducible refine ag 68 (.tmp 7) G 0 (bj false f a m (.slice z p.length s) (.slice A o.length t)) _ (some 56) (c.out.range) underlying68 rfl dD ?hg ?ho ?hds ?hx ?_);(case ho|hg|hds|hx=>rfl))
   |fail)
  refine(DF root cnt lba ⟨false,f,a,p,m,o⟩ _ _ _ (E.below b.out) D.out rfl n).mono ?_
  rintro e Y ⟨rfl,d⟩;have g:=hid (b.trans (d.mono b.size));clear d N O;go_wp2_with fail
  (try simp only[Exit.inBlock,Exit.then]);refine bodyPost_ret (results_tmp3 rfl _ _ _) rfl ⟨rfl,g.out⟩
theorem zb (v:Value) (n:Nat) (xs:List ay) (w:World) (h:w.ownsRow 0 61 9 v n (eJ xs)) (hn:n≤4096):
  Calls prog 50 #[v] w fun e w'=>(∃v',e= .returned v'∧w'.ownsRow w.heap.size 61 9 v' n (eJ xs))∧Below w.heap.size w w':=by
 obtain⟨A,y,o,q,r⟩:=info_parts kq
 rcases h.2 with⟨rfl,rfl⟩|⟨g,cap,cur,rfl,_⟩
 ·have s:(eJ xs)=([]:List Value):=List.eq_nil_of_length_eq_zero (by simpa using h.1)
  have x:=hid s;clear s h;have m:∀w,(binOp .eql 54 (.slice none 0 0) (.slice none 0 0)).run prog w= .ok (.bool true) w:=fun w=>Lib.run_eql_slice_nil w 54 61 none 0 0 0 0 underlying54
  go_enter func50,ntmps50;go_wp2_with fail;go_ret;exact⟨⟨_,rfl,by rw[x.out];exact World.ownsRow_nil _ _ _ _⟩,Below.refl _ _⟩
 ·have m:∀w,(binOp .eql 54 (.slice (some ⟨g,0,none⟩) n cap) (.slice none 0 0)).run prog w= .ok (.bool false) w:=fun w=>Lib.run_eql_slice_nil w 54 61 (some ⟨g,0,none⟩) n cap 0 0 underlying54
  have d:∀j u,(eJ xs)[j]?=some u→(w.alloc (.cells #[] 61)).cell? ((⟨g,0,none⟩:Addr).add j)=some u:=fun j u hu=>(World.ownsRow.alloc h _).cells (g:=g) rfl j u hu
  have i:=hid d;have t:=hid h.1;have c:=hid (show ∀u∈(eJ xs),u.oneCell'=true from F9 xs);clear h d;go_enter func50,ntmps50
  go_wp2_with (first
   |(at_builtin;refine wpList_append_own_wide _ rfl _ _ 54 rfl w.heap.size 61 A (.agg (ay.cells ⟨Rec.zero,⟨#[]⟩⟩).toArray) 9 96 underlying54 y o q r rfl (by decide) _ 0 [] rfl (World.ownsRow_lit w #[] 0 (Nat.le_refl _) (by decide) rfl) ⟨g,0,none⟩ n cap (eJ xs) rfl t.out i.out c.out (by simp only[maxLen];omega) (by omega) (by simp) ?_;intro C w8 a b f)
   |fail)
  have l:Below w.heap.size w w8:=eh ((Below.refl _ _).alloc (Nat.le_refl _) _) (World.ownsRow_lit (e:=61) (size:=9) w #[] 0 (Nat.le_refl _) (by decide) rfl) b (Nat.le_refl _) (by simp);rw[Nat.zero_add,List.nil_append]at a;have k:=hid a;obtain⟨p,B,z⟩:=aD a;subst z;clear a b f;go_ret;exact⟨⟨_,rfl,k.out⟩,l⟩
theorem A3 (i:ar) (v:ak) (w:World) (h:am w i v) (hn:v.sealed.length≤4096):
  Calls prog 16 #[.pointer (some ⟨i.vb,0,none⟩)] w fun e w'=>(∃v',e= .returned v'∧w'.ownsRow w.heap.size 61 9 v' v.sealed.length (eJ v.sealed))∧Below w.heap.size w w':=by
 have c:=hid h;obtain⟨d,cs,a⟩:=aD h.sealed;have b:=hid a;have g:w.cell? ⟨i.vb,4,none⟩=some (.slice d v.sealed.length cs):=by rw[←a];exact h.vol.cell (i:=4) rfl
 clear h a;go_enter func16,ntmps16;go_wp2_with fail
 refine(aQ i v _ c.out).mono ?_
 rintro e w' ⟨rfl,rfl⟩;go_wp2_with fail
 refine(zb (.slice d v.sealed.length cs) _ v.sealed _ (by rw[←b.out];exact c.sealed) hn).mono ?_
 rintro e j ⟨⟨v',rfl,f⟩,hb⟩;go_wp2_with fail;go_ret;exact⟨⟨v',rfl,f⟩,hb⟩
theorem ze (i:ar) (v:ak) (w:World) (h:am w i v):
  Calls prog 11 #[.pointer (some ⟨i.vb,0,none⟩)] w fun e a=>e= .returned (.tuple #[.int .i64 v.epoch, .string v.key, .string v.data])∧a=w.drew:=
 Cf i.vb i.jb i.bb i.c2 i.m1 i.m2 i.m3 v.first v.epoch v.key v.data _ _ _ _ w h.vol h.book
theorem tK {c:aP}:(prog.info? 36).map (·.size)=some c.cells.length:=by kernel_rfl
theorem aP.one (c:aP):∀v∈c.cells,v.oneCell'=true:=by
 intro v a;simp only[aP.cells,List.mem_cons,List.mem_nil_iff,or_false]at a
 rcases a with rfl|rfl|rfl|rfl|rfl|rfl|rfl<;>rfl
open Go.ChangeShapes Go.WideShapes Go.Deep
def ml (w:World) (v:Value) (l:List aP):Prop:=
 (l=[]∧∃(a:Option Addr) (cap:Nat),v= .slice a 0 cap)∨
 ∃(g o cap:Nat),v= .slice (some ⟨g,o,none⟩) l.length cap∧l.length≤cap∧g<w.heap.size∧∀(j:Nat) (x:aP),l[j]?=some x→w.rangeAt g (o+j*7) x.cells
theorem ml.below {w a:World} {v:Value} {l:List aP} (h:ml w v l) {B:Nat} (hb:Below B w a) (c:w.heap.size≤B):ml a v l:=by
 rcases h with h|⟨g,o,cap,h1,h2,h3,h4⟩
 ·exact .inl h
 ·exact .inr ⟨g,o,cap,h1,h2,Nat.lt_of_lt_of_le h3 hb.size,fun j x b i u hu=>by rw[hb.cell (by show g<B;omega)];exact h4 j x b i u hu⟩
structure gV (w:World) (v:Value) (l:List aP):Prop where
 row:ml w v l
 fits:∀(j:Nat) (x:aP),l[j]?=some x→x.kn≤9223372036854775807
 long:∀(j:Nat) (x:aP),l[j]?=some x→x.data.size≤9223372036854775807∧x.name.size≤9223372036854775807
section
variable {H:Type} {enc:TypeId×Value→H} {w:World} {base:Nat} {spare:Nat→Bool} {held:Bool}
theorem Fz {a:Nat} {cs:List Value} {x:DataW H×List MemPlace} (h:DataW.trod enc prog w base spare held a 36 cs=some x):∃c:aP,cs=c.cells∧c.kn≤9223372036854775807∧c.data.size≤9223372036854775807∧c.name.size≤9223372036854775807:=by
 obtain⟨c,b,l⟩:=G7 h;obtain⟨xs,n,_,_,hl,d,k⟩:=DataW.trod_struct underlying36 h;have e:prog.cellsOf 9=1:=by kernel_rfl
 match xs,d with
 |[y0,y1,y2,y3,y4,y5,y6],_=>
  have i:DataW.trod enc prog w base spare held n 9 (List.take (prog.cellsOf 9) (List.drop 4 cs))=some y4:=k 4 _ rfl;rw[e]at i;have j:DataW.trod enc prog w base spare held n 9 (List.take (prog.cellsOf 9) (List.drop 5 cs))=some y5:=k 5 _ rfl;rw[e]at j;obtain⟨q,f,_,m⟩:=DataW.trod_string underlying9 i;obtain⟨r,g,_,o⟩:=DataW.trod_string underlying9 j;rw[b]at f g;simp[aP.cells]at f g;have p:maxLen=9223372036854775807:=rfl;exact⟨c,b,l,by rw[f];omega,by rw[g];omega⟩
theorem FA {v:Value} {d:DataW H} {Q:List MemPlace} (P:∃a z e,v= .slice a z e) (h:DataW.Trod enc prog w base spare held 24 v d Q):∃l,gV w v l:=by
 obtain⟨R,C,I,rfl⟩:=P;obtain⟨E,M⟩:=h
 rcases open_slice underlying24 M with⟨hcs,_⟩|⟨a,z,e,m,n,D,Pl,hcs,_,hl,hm,hmm,_,hi⟩
 ·simp[Value.cells]at hcs
  obtain⟨rfl,rfl,rfl⟩:=hcs;exact⟨[],⟨.inl ⟨rfl,_,_,rfl⟩,fun j x h=>by simp at h,fun j x h=>by simp at h⟩⟩
 ·simp[Value.cells]at hcs
  obtain⟨rfl,rfl,rfl⟩:=hcs;have hc:prog.cellsOf 36=7:=by kernel_rfl
  rw[hc]at hi
  by_cases K:C=0
  ·subst K
   exact⟨[],⟨.inl ⟨rfl,_,_,rfl⟩,fun j x h=>by simp at h,fun j x h=>by simp at h⟩⟩
  ·have N:C≤m:=by rw[hmm];split<;>omega
   have k:∀i,i<m→∃s:aP,(∀j u,s.cells[j]?=some u→w.cell? (a.add (i*7+j))=some u)∧s.kn≤9223372036854775807∧s.data.size≤9223372036854775807∧s.name.size≤9223372036854775807:=by
    intro i B;obtain⟨J,p,L⟩:=hi i B;obtain⟨s,F,q⟩:=Fz L;refine⟨s,fun j u hu=> ?_,q⟩;obtain⟨_,r,A⟩:=World.cells?_some p;have c:=(List.getElem?_eq_some_iff.1 hu).1
    have:=A j (by rw[F]at r;omega)
    rw[Deep.add_add]at this;rw[this,F,hu]
   haveI:Inhabited aP:=⟨⟨0,0,0,0,⟨#[]⟩,⟨#[]⟩,none,0,0⟩⟩
   obtain⟨f,b⟩:=choose_lt k;obtain⟨G,O⟩:∃G,G=f 0:=⟨_,rfl⟩;have p:=(b 0 (by omega)).1 0 _ rfl;rw[Nat.zero_mul]at p;have t:=World.cell?_spot p;obtain⟨g,o,s⟩:=a;simp[Addr.add]at t;subst t;refine⟨(List.range C).map f,⟨.inr ⟨g,o,I,by simp,by simpa using hl,lt_of_cell (by simpa[Addr.add]using p),fun j x y=> ?_⟩,fun j x y=> ?_,fun j x y=> ?_⟩⟩
   ·obtain⟨c,rfl⟩:=List.getElem?_eq_some_iff.1 y
    simp at c;intro i u hu
    have:=(b j (by omega)).1 i u (by simpa using hu)
    rw[Addr.add_mid]at this;rw[Nat.add_assoc];exact this
   ·obtain⟨c,rfl⟩:=List.getElem?_eq_some_iff.1 y
    simp at c
    simpa using(b j (by omega)).2.1
   ·obtain⟨c,rfl⟩:=List.getElem?_eq_some_iff.1 y
    simp at c
    simpa using(b j (by omega)).2.2
end
theorem gV.below {w a:World} {v:Value} {l:List aP} (h:gV w v l) {B:Nat} (hb:Below B w a) (b:w.heap.size≤B):gV a v l:=⟨h.row.below hb b,h.fits,h.long⟩
theorem ml.shape {w:World} {v:Value} {l:List aP} (h:ml w v l):∃p b,v= .slice p l.length b∧∀(j:Nat) (x:aP),l[j]?=some x→∃g o,p=some ⟨g,o,none⟩∧g<w.heap.size∧w.rangeAt g (o+j*7) x.cells:=by
 rcases h with⟨rfl,a,b,rfl⟩|⟨g,o,b,h1,h2,h3,h4⟩
 ·exact⟨a,b,rfl,fun j x c=>by simp at c⟩
 ·exact⟨_,b,h1,fun j x c=>⟨g,o,rfl,h3,h4 j x c⟩⟩
def Nn (n:Nat) (e:Ending):Prop:=∃q:Bool,e= .returned (.bool q)∧(q=true→n≤60)
theorem DG (v:Value) (l:List aP) (w:World) (h:gV w v l):
  Calls prog 23 #[v] w fun e w'=>Nn l.length e∧Below w.heap.size w w':=by
 obtain⟨p,S,rfl,q⟩:=h.row.shape;have R:=hid q;have P:=hid h.fits;obtain⟨L,F⟩:∃L,l.length=L:=⟨_,rfl⟩;rw[F];have Q:=hid F;clear h q F;go_enter func23,ntmps23;go_wp2_with fail;go_loopw [3,4] (fun vn M wr=>∃k m:Nat,k≤61∧M= .int .i64 k∧vn= .int .i64 m∧m≤30000*k∧k≤L∧Below w.heap.size w wr) (fun _ M _=>61-(intOf M).toNat)
 case atStart=>exact⟨0,0,by omega,rfl,rfl,by omega,by omega,Below.refl _ _⟩
 case round=>
  obtain⟨k,m,Y,rfl,rfl,hm,Z,n⟩:=hrel;have t:=hid n;clear n
  by_cases j:k<L∧k≤60
  ·obtain⟨B,C⟩:=j
   have z:(k:Int)<(L:Int):=by omega
   have G:(k:Int)≤60:=by omega
   have s:(0:Int)≤(k:Int):=by omega
   have r:decide (k<L)=true:=decide_eq_true B;have W:decide (k≤60)=true:=decide_eq_true C;obtain⟨c,hc⟩:∃c,l[k]?=some c:=⟨_,List.getElem?_eq_getElem (by have:=Q.out;omega)⟩;obtain⟨g,o,K,O,D⟩:=R.out k c hc;subst K;have f:wr.rangeAt g (o+k*7) c.cells:=fun i u hu=>by rw[t.cell (by show g<w.heap.size;exact O)];exact D i u hu
   have d4:wr.cell? ⟨g,o+k*7+4,none⟩=some (.string c.data):=f 4 _ rfl;have d5:wr.cell? ⟨g,o+k*7+5,none⟩=some (.string c.name):=f 5 _ rfl;have d6:wr.cell? ⟨g,o+k*7+6,none⟩=some (.slice c.kp c.kn c.kc):=f 6 _ rfl;have I:=P.out k c hc;obtain⟨a,T⟩:∃a:Nat,a=min c.data.size 10000:=⟨_,rfl⟩;obtain⟨b,hb⟩:∃b:Nat,b=min c.name.size 10000:=⟨_,rfl⟩;obtain⟨d,hd⟩:∃d:Nat,d=min c.kn 10000:=⟨_,rfl⟩;have U:a≤10000:=by omega
   have V:b≤10000:=by omega
   have N:d≤10000:=by omega
   have e1:min (c.data.size:Int) 10000=(a:Int):=by omega
   have e2:min (c.name.size:Int) 10000=(b:Int):=by omega
   have e3:min (c.kn:Int) 10000=(d:Int):=by omega
   clear T hb hd D f hc I O;go_wp2_with fail;go_quiet (fail);go_wp2_with fail;go_roundw
   case rel=>exact⟨k+1,m+a+b+d,by omega,by go_num,by go_num,by omega,by omega,Below.drewN t.out _⟩
   case measure=>simp[intOf];omega
  ·have r:(decide (k<L)&&decide (k≤60))=false:=by
    rw[Bool.and_eq_false_iff]
    by_cases x:k<L
    ·exact .inr (decide_eq_false (fun y=>j ⟨x,y⟩))
    ·exact .inl (decide_eq_false x)
   by_cases x:k<L
   ·have y:¬k≤60:=fun y=>j ⟨x,y⟩
    have z:(k:Int)<(L:Int):=by omega
    have G:¬(k:Int)≤60:=by omega
    have s:¬(L:Int)≤60:=by omega
    have H:decide (k<L)=true:=decide_eq_true x;have X:decide (k≤60)=false:=decide_eq_false y;have A:decide (L≤60)=false:=decide_eq_false (by omega);clear r j;go_wp2_with fail;go_ret;exact⟨⟨_,rfl,fun h=>by cases h⟩,t.out⟩
   ·have z:¬(k:Int)<(L:Int):=by omega
    have H:decide (k<L)=false:=decide_eq_false x;clear r j
    by_cases E:L≤60
    ·have s:(L:Int)≤60:=by omega
     have A:decide (L≤60)=true:=decide_eq_true E
     by_cases ad:m≤12000
     ·have J:(m:Int)≤12000:=by omega
      go_wp2_with fail;go_ret;exact⟨⟨_,rfl,fun _=>E⟩,t.out⟩
     ·have J:¬(m:Int)≤12000:=by omega
      go_wp2_with fail;go_ret;exact⟨⟨_,rfl,fun _=>E⟩,t.out⟩
    ·have s:¬(L:Int)≤60:=by omega
     have A:decide (L≤60)=false:=decide_eq_false E;go_wp2_with fail;go_ret;exact⟨⟨_,rfl,fun h=>by cases h⟩,t.out⟩
theorem FB (g:aI) (w:World):
  Calls prog 22 #[.agg (g.cells).toArray] w fun e w'=>e= .returned (.bool (decide (g.blocks≤48∧g.lbas≤16)))∧Below w.heap.size w w':=by
 obtain⟨b,l,f⟩:=g
 by_cases n:b≤48
 ·by_cases o:l≤16
  ·rw[decide_eq_true (show b≤48∧l≤16 from⟨n,o⟩)]
   go_enter func22,ntmps22
   go_wp2_with (first
    |((with_reducible refine ae 23 (.tmp 0) (aI.cells ⟨b,l,f⟩) (some 1) ?hgd ?ho ?hd ?hx ?_);(case hgd|ho|hd|hx=>rfl);(intro j p d a c q;have k:=a.cell (i:=0) rfl;have m:=a.cell (i:=1) rfl))
    |fail)
   go_ret;exact⟨rfl,c.mono d⟩
  ·rw[decide_eq_false (show¬(b≤48∧l≤16)from fun h=>o h.2)]
   go_enter func22,ntmps22
   go_wp2_with (first
    |((with_reducible refine ae 23 (.tmp 0) (aI.cells ⟨b,l,f⟩) (some 1) ?hgd ?ho ?hd ?hx ?_);(case hgd|ho|hd|hx=>rfl);(intro j p d a c q;have k:=a.cell (i:=0) rfl;have m:=a.cell (i:=1) rfl))
    |fail)
   go_ret;exact⟨rfl,c.mono d⟩
 ·rw[decide_eq_false (show¬(b≤48∧l≤16)from fun h=>n h.1)]
  go_enter func22,ntmps22
  go_wp2_with (first
   |((with_reducible refine ae 23 (.tmp 0) (aI.cells ⟨b,l,f⟩) (some 1) ?hgd ?ho ?hd ?hx ?_);(case hgd|ho|hd|hx=>rfl);(intro j p d a c q;have k:=a.cell (i:=0) rfl;have m:=a.cell (i:=1) rfl))
   |fail)
  go_ret;exact⟨rfl,c.mono d⟩
def Np (g:aI) (n:Nat) (e:Ending):Prop:=∃q:Bool,e= .returned (.bool q)∧(q=true→g.blocks≤48∧g.lbas≤16∧n≤60)
theorem FC (g:aI) (v:Value) (l:List aP) (w:World) (h:gV w v l):
  Calls prog 6 #[.agg (g.cells).toArray,v] w fun e w'=>Np g l.length e∧Below w.heap.size w w':=by
 have m:=hid h;obtain⟨p,B,rfl,_⟩:=h.row.shape;have n:=hid (fun(i:World) (hb:Below w.heap.size w i)=>DG _ l i ⟨m.row.below hb (Nat.le_refl _),m.fits,m.long⟩);obtain⟨q,o⟩:∃q,decide (g.blocks≤48∧g.lbas≤16)=q:=⟨_,rfl⟩;have s:=hid o;have c:=hid (fun(i:World)=>FB g i);rw[o]at c;clear h o;go_enter func6,ntmps6
 go_wp2_with (first
  |((with_reducible refine ae 23 (.tmp 0) (g.cells) (some 2) ?hgd ?ho ?hd ?hx ?_);(case hgd|ho|hd|hx=>rfl);(intro A D x r t C;have j:=hid r))
  |((with_reducible refine ag 23 (.tmp 2) A 0 (g.cells) _ (some 5) (j.out.range) underlying23 rfl bM ?hg ?ho ?hds ?hx ?_);(case ho|hg|hds|hx=>rfl))
  |fail)
 have b:=hid (t.mono x);clear r t x C
 refine(c.out _).mono ?_
 rintro e E ⟨rfl,d⟩;have a:=hid (b.trans (d.mono b.size));clear d
 cases q with
 |false=>
  go_wp2_with fail;go_ret;exact⟨⟨_,rfl,fun h=>by cases h⟩,a.out⟩
 |true=>
  go_wp2_with fail
  refine(n.out _ a.out).mono ?_
  rintro e F ⟨⟨z,rfl,u⟩,f⟩;have y:=hid u;have k:=hid (a.trans (f.mono a.size));clear f u;go_wp2_with fail;go_ret;exact⟨⟨_,rfl,fun h=>⟨(of_decide_eq_true s.out).1,(of_decide_eq_true s.out).2,y.out h⟩⟩,k.out⟩
theorem DI (n:Int) (w:World) (h:n<8∨1024<n):
  Calls prog 5 #[.int .i64 n] w fun e w'=>e= .returned (.tuple #[.pointer none, .int .i64 2])∧w=w':=by
 by_cases a:n<8
 ·go_enter func5,ntmps5
  go_wp2_with fail;go_ret2;exact⟨rfl,rfl⟩
 ·have b:1024<n:=h.resolve_left a
  clear h;go_enter func5,ntmps5;go_wp2_with fail;go_ret2;exact⟨rfl,rfl⟩
theorem DJ (g:aI) (w:World) (x:¬cD g):
  Calls prog 29 #[g.v] w fun e w'=>e= .returned (.int .i64 2)∧Below w.heap.size w w':=by
 obtain⟨b,l,f⟩:=g
 have h:b<8∨1024<b∨l<1∨4096<l∨f<0∨4294967295<f:=by
  by_cases q:b<8
  ·exact .inl q
  by_cases r:1024<b
  ·exact .inr (.inl r)
  by_cases s:l<1
  ·exact .inr (.inr (.inl s))
  by_cases t:4096<l
  ·exact .inr (.inr (.inr (.inl t)))
  by_cases u:f<0
  ·exact .inr (.inr (.inr (.inr (.inl u))))
  exact .inr (.inr (.inr (.inr (.inr (Int.not_le.1 (fun y=>x ⟨by show 8≤b;omega,by show b≤1024;omega,by show 1≤l;omega,by show l≤4096;omega,by show 0≤f;omega,by show f<4294967296;omega⟩))))))
 clear x
 by_cases q:b<8
 ·clear h
  go_enter func29,ntmps29
  go_wp2_with (first
   |((with_reducible refine ae 23 (.tmp 0) (aI.cells ⟨b,l,f⟩) (some 1) ?hgd ?ho ?hd ?hx ?_);(case hgd|ho|hd|hx=>rfl);(intro j o d a c p;have k:=a.cell (i:=0) rfl;have m:=a.cell (i:=1) rfl;have n:=a.cell (i:=2) rfl))
   |fail)
  go_ret;exact⟨rfl,c.mono d⟩
 by_cases r:1024<b
 ·clear h
  go_enter func29,ntmps29
  go_wp2_with (first
   |((with_reducible refine ae 23 (.tmp 0) (aI.cells ⟨b,l,f⟩) (some 1) ?hgd ?ho ?hd ?hx ?_);(case hgd|ho|hd|hx=>rfl);(intro j o d a c p;have k:=a.cell (i:=0) rfl;have m:=a.cell (i:=1) rfl;have n:=a.cell (i:=2) rfl))
   |fail)
  go_ret;exact⟨rfl,c.mono d⟩
 by_cases s:l<1
 ·clear h
  go_enter func29,ntmps29
  go_wp2_with (first
   |((with_reducible refine ae 23 (.tmp 0) (aI.cells ⟨b,l,f⟩) (some 1) ?hgd ?ho ?hd ?hx ?_);(case hgd|ho|hd|hx=>rfl);(intro j o d a c p;have k:=a.cell (i:=0) rfl;have m:=a.cell (i:=1) rfl;have n:=a.cell (i:=2) rfl))
   |fail)
  go_ret;exact⟨rfl,c.mono d⟩
 by_cases t:4096<l
 ·clear h
  go_enter func29,ntmps29
  go_wp2_with (first
   |((with_reducible refine ae 23 (.tmp 0) (aI.cells ⟨b,l,f⟩) (some 1) ?hgd ?ho ?hd ?hx ?_);(case hgd|ho|hd|hx=>rfl);(intro j o d a c p;have k:=a.cell (i:=0) rfl;have m:=a.cell (i:=1) rfl;have n:=a.cell (i:=2) rfl))
   |fail)
  go_ret;exact⟨rfl,c.mono d⟩
 by_cases u:f<0
 ·clear h
  go_enter func29,ntmps29
  go_wp2_with (first
   |((with_reducible refine ae 23 (.tmp 0) (aI.cells ⟨b,l,f⟩) (some 1) ?hgd ?ho ?hd ?hx ?_);(case hgd|ho|hd|hx=>rfl);(intro j o d a c p;have k:=a.cell (i:=0) rfl;have m:=a.cell (i:=1) rfl;have n:=a.cell (i:=2) rfl))
   |fail)
  go_ret;exact⟨rfl,c.mono d⟩
 have y:(4294967295:Int)<f:=by omega
 clear h;go_enter func29,ntmps29
 go_wp2_with (first
  |((with_reducible refine ae 23 (.tmp 0) (aI.cells ⟨b,l,f⟩) (some 1) ?hgd ?ho ?hd ?hx ?_);(case hgd|ho|hd|hx=>rfl);(intro j o d a c p;have k:=a.cell (i:=0) rfl;have m:=a.cell (i:=1) rfl;have n:=a.cell (i:=2) rfl))
  |fail)
 go_ret;exact⟨rfl,c.mono d⟩
theorem zf (d:Value) (g:aI) (root:ByteArray) (w:World) (h:¬root.size=32∨¬cD g):
  Calls prog 8 #[d,g.v, .string root] w fun e w'=>e= .returned (.tuple #[.pointer none, .int .i64 2])∧Below w.heap.size w w':=by
 by_cases k:root.size=32
 ·have t:=hid (h.resolve_left (fun hn=>hn k))
  have p:=hid k;clear h k;go_enter func8,ntmps8
  go_wp2_with (first
   |((with_reducible refine ae 23 (.tmp 1) g.cells (some 4) ?hgd ?ho ?hd ?hx ?_);(case hgd|ho|hd|hx=>rfl);(intro s y c f j n))
   |fail)
  refine(mT root _).mono ?_
  rintro e x ⟨m,b⟩;obtain⟨r,rfl,u⟩:=m.yes p.out;have o:=hid (f.below b f.lt);have a:=hid ((j.mono c).trans (b.mono (Nat.le_trans c (Nat.le_of_lt n))));clear f j c n b m u
  go_wp2_with (first
   |((with_reducible refine ag 23 (.tmp 4) s 0 g.cells _ (some 21) (o.out.range) underlying23 rfl bM ?hg ?ho ?hds ?hx ?_);(case ho|hg|hds|hx=>rfl))
   |fail)
  refine(DJ g _ t.out).mono ?_
  rintro e z ⟨rfl,l⟩;have i:=hid (a.trans (l.mono a.size));clear l;go_wp2_with fail;go_ret2;exact⟨rfl,i.out⟩
 ·have p:=hid k
  clear h k;go_enter func8,ntmps8
  go_wp2_with (first
   |((with_reducible refine ae 23 (.tmp 1) g.cells (some 4) ?hgd ?ho ?hd ?hx ?_);(case hgd|ho|hd|hx=>rfl);(intro s y c f j n))
   |fail)
  refine(mT root _).mono ?_
  rintro e x ⟨m,b⟩;have q:=m.no p.out;subst q;have a:=hid ((j.mono c).trans (b.mono (Nat.le_trans c (Nat.le_of_lt n))));clear f j c n b m;go_wp2_with fail;go_ret2;exact⟨rfl,a.out⟩
end Go.Proofs.YtadooplpfhdhcaaGreat
