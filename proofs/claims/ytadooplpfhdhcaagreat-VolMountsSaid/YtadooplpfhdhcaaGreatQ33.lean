/- Do (chapter 26) of a read and of Stat. Do (chapter 26) of Stat. A volume, in plain words (chapters 24 and 26): the model's state, and how a volume stands to it, kept by every call. No program in sight. -/
import Derived.Test.YtadooplpfhdhcaaGreatQ32
set_option linter.unusedSimpArgs false
set_option linter.unusedVariables false
set_option maxRecDepth 100000
set_option maxHeartbeats 4000000
namespace Go.Proofs.YtadooplpfhdhcaaGreat
open Go Go.RowKit Go.Maps Go.WideMaps
open Go.Lib (hid)
open Go.Proofs.Tryz
def gy (R:ByteArray→Int→Prop) (w:World) (e:Ending) (w':World):Prop:=(∃r k,e= .returned (.tuple #[.string r, .int .i64 k])∧R r k)∧Below w.heap.size w w'
theorem wW {c:aG}:(prog.info? 36).map (·.size)=some c.cells.length:=by kernel_rfl
def gz (k:Int) (r:ByteArray):List Value:=[.int .i64 k, .string r]++m7
theorem iO {k:Int} {r:ByteArray}:(prog.info? 40).map (·.size)=some (gz k r).length:=by kernel_rfl
theorem rh (k:Int) (r:ByteArray):∀v∈gz k r,v.oneCell'=true:=by intro v a;simp[gz,m7]at a;rcases a with rfl|rfl|rfl<;>rfl
theorem wX (k:Int) (r:ByteArray):prog.built 40 [(0, .int .i64 k),(1, .string r)]=some (gz k r).toArray:=by kernel_rfl
theorem BZ (R:ByteArray→Int→Prop) (i:ap) (v:ai) (lba:Int) (w:World) (h:al w i v) (a:∀c,al c i v→Calls prog 26 #[.pointer (some ⟨i.vb,0,none⟩), .int .i64 lba, .int .i64 v.epoch] c fun e w'=>gy R c e w'):
  Calls prog 27 #[.pointer (some ⟨i.vb,0,none⟩), .int .i64 lba] w fun e w'=>gy R w e w':=by
 have b:=hid a;clear a;have j:w.cell? ⟨i.vb,5,none⟩=some (.pointer (some ⟨i.bb,0,none⟩)):=h.vol.cell (i:=5) rfl;go_enter func27,ntmps27;go_wp2_with fail
 refine(aP i v _ h).mono ?_
 rintro e w' ⟨rfl,rfl⟩;go_wp2_with fail
 refine(aR i.bb i.c2 v.first v.epoch i.m1 i.m2 i.m3 _ h.book).mono ?_
 rintro e w' ⟨rfl,rfl⟩;go_wp2_with fail
 refine(b.out _ h).mono ?_
 rintro e l ⟨⟨r,k,rfl,d⟩,hb⟩;have g:=hid d;have f:=hid hb;clear d hb;go_wp2_with fail;go_ret2;exact⟨⟨r,k,rfl,g.out⟩,f.out⟩
theorem zQ (R:ByteArray→Int→Prop) (i:ap) (v:ai) (c:aG) (d f:Nat) (w:World) (h:al w i v) (g:ac w d [.pointer (some ⟨i.vb,0,none⟩)] 31) (j:ac w f c.cells 36) (l:∀b,al b i v→Calls prog 26 #[.pointer (some ⟨i.vb,0,none⟩), .int .i64 c.lba, .int .i64 c.epoch] b fun e w'=>gy R b e w'):
  Calls prog 103 #[.pointer (some ⟨d,0,none⟩), .pointer (some ⟨f,0,none⟩)] w fun e w'=>gy R w e w':=by
 have s:=g.cell (i:=0) rfl;have a:=hid j;have n:=hid h;have p:=hid l;have t:=a.cell (i:=1) rfl;have u:=a.cell (i:=2) rfl;clear h g j l;go_enter func103,ntmps103;go_wp2_with fail
 refine(p.out _ n.out).mono ?_
 rintro e x ⟨⟨r,k,rfl,m⟩,hb⟩;have q:=hid m;have o:=hid hb;clear m hb;go_wp2_with fail;go_ret2;exact⟨⟨r,k,rfl,q.out⟩,o.out⟩
theorem zR (R:ByteArray→Int→Prop) (i:ap) (v:ai) (c:aG) (d f:Nat) (w:World) (h:al w i v) (g:ac w d [.pointer (some ⟨i.vb,0,none⟩)] 31) (j:ac w f c.cells 36) (l:∀b,al b i v→Calls prog 27 #[.pointer (some ⟨i.vb,0,none⟩), .int .i64 c.lba] b fun e w'=>gy R b e w'):
  Calls prog 104 #[.pointer (some ⟨d,0,none⟩), .pointer (some ⟨f,0,none⟩)] w fun e w'=>gy R w e w':=by
 have s:=g.cell (i:=0) rfl;have a:=hid j;have n:=hid h;have p:=hid l;have t:=a.cell (i:=1) rfl;clear h g j l;go_enter func104,ntmps104;go_wp2_with fail
 refine(p.out _ n.out).mono ?_
 rintro e u ⟨⟨r,k,rfl,m⟩,hb⟩;have q:=hid m;have o:=hid hb;clear m hb;go_wp2_with fail;go_ret2;exact⟨⟨r,k,rfl,q.out⟩,o.out⟩
theorem x9 (R:ByteArray→Int→Prop) (i:ap) (v:ai) (c:aG) (w:World) (h:al w i v) (K:c.kind=2) (L:∀a,al a i v→Calls prog 27 #[.pointer (some ⟨i.vb,0,none⟩), .int .i64 c.lba] a fun e w'=>gy R a e w'):
  Calls prog 33 #[.pointer (some ⟨i.vb,0,none⟩),c.v] w fun e w'=>(∃r k,e= .returned (.agg (gz k r).toArray)∧R r k)∧Below w.heap.size w w':=by
 have Y:∀(J:Fn) (first m:Array Value) (w:World),(Instr.makeFunc J first m).run prog w= .ok (.func J first m) w:=fun _ _ _ _=>rfl
 have z:=hid (fun(s t:Nat) (a:World) (hx:al a i v) (W:ac a s [.pointer (some ⟨i.vb,0,none⟩)] 31) (X:ac a t c.cells 36)=>zR R i v c s t a hx W X L);obtain⟨N,lba,b,q,n,p,kp,kn,Z⟩:=c;simp only at K;subst K;have T:=hid h;clear h L;go_enter func33,ntmps33
 go_wp2_with (first
  |((with_reducible refine aO 31 (.tmp 0) (.pointer (some ⟨i.vb,0,none⟩)) rfl (some 2) ?hgd ?ho ?hd ?hx ?_);(case hgd|ho|hd|hx=>rfl);(intro s w1 O F I Q))
  |((with_reducible refine ae 36 (.tmp 1) (aG.cells ⟨2,lba,b,q,n,p,kp,kn,Z⟩) (some 3) ?hgd ?ho ?hd ?hx ?_);(case hgd|ho|hd|hx=>rfl);(intro t w2 P u C E))
  |((with_reducible refine ab 40 _ eI (some 4) ?hgd ?ho ?hd ?_);(case hgd|ho|hd=>rfl);(intro H w3 D G o z3;have q0:=(u.below o (Nat.lt_of_lt_of_le E D)).cell (i:=0) rfl))
  |fail)
 have d:Below w.heap.size w w3:=((I.mono O).trans (C.mono (by omega))).trans (o.mono (by omega));have A:=hid ((F.below C (Nat.lt_of_lt_of_le Q P)).below o (by omega));have B:=hid (u.below o (Nat.lt_of_lt_of_le E D));have j:=hid G;have y:=hid (show w.heap.size≤H by omega);have g:=hid d;have U:=hid (T.below d);clear F u G I C o O P D Q E z3 d q0
 refine(z.out s t _ U.out A.out B.out).mono ?_
 rintro e w4 ⟨⟨r,k,rfl,M⟩,f⟩;have V:=hid M;have l:=hid (j.below f j.lt);have x:=hid (g.trans (f.mono g.size));clear M f
 go_wp2_with (first
  |((with_reducible refine au 40 ?parts (gz k r) ?hg ?ho ?hf ?_);(case hg|ho=>rfl);(case hf=>exact wX k r))
  |((with_reducible refine aa 40 (.tmp 4) (.tmp 20) H (cF 0) (gz k r) 40 l.out rfl iO (rh k r) ?hgd ?ho ?hx ?hy ?_);(case hgd|ho|hx|hy=>rfl);(intro w5 S o5))
  |fail)
 (try simp only[Exit.inBlock,Exit.then])
 refine bodyPost_ret (aY rfl _ _ S.range rfl underlying40 rfl iO) rfl ⟨⟨r,k,rfl,V.out⟩,o5.below x.out y.out⟩
theorem Gx (R:ByteArray→Int→Prop) (i:ap) (v:ai) (c:aG) (w:World) (h:al w i v) (B:c.kind=2) (I:∀m,al m i v→Calls prog 27 #[.pointer (some ⟨i.vb,0,none⟩), .int .i64 c.lba] m fun e w'=>gy R m e w'):
  Calls prog 9 #[.pointer (some ⟨i.vb,0,none⟩),c.v] w fun e w'=>(∃r k,e= .returned (.agg (gz k r).toArray)∧R r k)∧Below w.heap.size w w':=by
 have z:=hid (fun(m:World) (hx:al m i v)=>x9 R i v c m hx B I);obtain⟨L,lba,a,g,d,f,N,M,K⟩:=c;simp only at B;subst B;have U:∀(H:Fn) (first s:Array Value) (w:World),(Instr.makeFunc H first s).run prog w= .ok (.func H first s) w:=fun _ _ _ _=>rfl
 have E:=hid h;clear h I;go_enter func9,ntmps9
 go_wp2_with (first
  |((with_reducible refine ae 36 (.tmp 1) (aG.cells ⟨2,lba,a,g,d,f,N,M,K⟩) (some 3) ?hgd ?ho ?hd ?hx ?_);(case hgd|ho|hd|hx=>rfl);(intro S Y t C G x))
  |((with_reducible refine ab 40 _ eI (some 4) ?hgd ?ho ?hd ?_);(case hgd|ho|hd=>rfl);(intro T w2 u D A X))
  |fail)
 have j:Below w.heap.size w w2:=(G.mono t).trans (A.mono (Nat.le_trans t (Nat.le_trans (Nat.le_of_lt x) u)));have n:=hid (Nat.le_trans t (Nat.le_trans (Nat.le_of_lt x) u));have o:=hid (C.below A (Nat.lt_of_lt_of_le x u));have p:=hid D;have b:=hid j;have F:=hid (E.below j);have P:=hid (E.fresh n.out);clear C D G A t u x X j
 refine(aP i v _ F.out).mono ?_
 rintro e w' ⟨rfl,rfl⟩;have W:=o.cell (i:=0) rfl
 go_wp2_with (first
  |((with_reducible refine aj 36 (.tmp 3) S (aG.cells ⟨2,lba,a,g,d,f,N,M,K⟩) 36 _ o.out underlying36 rfl wW ?hgd ?ho ?hx ?_);(case hgd|ho|hx=>rfl))
  |fail)
 refine(z.out _ F.out).mono ?_
 rintro e Z ⟨⟨r,k,rfl,J⟩,l⟩;have Q:=hid J;have q:=hid (p.below l p.lt);have y:=hid (b.trans (l.mono b.size));clear J l W
 go_wp2_with (first
  |((with_reducible refine aa 40 (.tmp 4) (.tmp 20) T (cF 0) (gz k r) 40 q.out rfl iO (rh k r) ?hgd ?ho ?hx ?hy ?_);(case hgd|ho|hx|hy=>rfl);(intro w5 O V))
  |fail)
 (try simp only[Exit.inBlock,Exit.then])
 refine bodyPost_ret (aY rfl _ _ O.range rfl underlying40 rfl iO) rfl ⟨⟨r,k,rfl,Q.out⟩,V.below y.out n.out⟩
theorem yi (R:ByteArray→Int→Prop) (i:ap) (v:ai) (c:aG) (w:World) (h:al w i v) (K:c.kind=3) (L:∀a,al a i v→Calls prog 26 #[.pointer (some ⟨i.vb,0,none⟩), .int .i64 c.lba, .int .i64 c.epoch] a fun e w'=>gy R a e w'):
  Calls prog 33 #[.pointer (some ⟨i.vb,0,none⟩),c.v] w fun e w'=>(∃r k,e= .returned (.agg (gz k r).toArray)∧R r k)∧Below w.heap.size w w':=by
 have Y:∀(J:Fn) (first m:Array Value) (w:World),(Instr.makeFunc J first m).run prog w= .ok (.func J first m) w:=fun _ _ _ _=>rfl
 have z:=hid (fun(s t:Nat) (a:World) (hx:al a i v) (W:ac a s [.pointer (some ⟨i.vb,0,none⟩)] 31) (X:ac a t c.cells 36)=>zQ R i v c s t a hx W X L);obtain⟨N,lba,b,q,n,p,kp,kn,Z⟩:=c;simp only at K;subst K;have T:=hid h;clear h L;go_enter func33,ntmps33
 go_wp2_with (first
  |((with_reducible refine aO 31 (.tmp 0) (.pointer (some ⟨i.vb,0,none⟩)) rfl (some 2) ?hgd ?ho ?hd ?hx ?_);(case hgd|ho|hd|hx=>rfl);(intro s w1 O F I Q))
  |((with_reducible refine ae 36 (.tmp 1) (aG.cells ⟨3,lba,b,q,n,p,kp,kn,Z⟩) (some 3) ?hgd ?ho ?hd ?hx ?_);(case hgd|ho|hd|hx=>rfl);(intro t w2 P u C E))
  |((with_reducible refine ab 40 _ eI (some 4) ?hgd ?ho ?hd ?_);(case hgd|ho|hd=>rfl);(intro H w3 D G o z3;have q0:=(u.below o (Nat.lt_of_lt_of_le E D)).cell (i:=0) rfl))
  |fail)
 have d:Below w.heap.size w w3:=((I.mono O).trans (C.mono (by omega))).trans (o.mono (by omega));have A:=hid ((F.below C (Nat.lt_of_lt_of_le Q P)).below o (by omega));have B:=hid (u.below o (Nat.lt_of_lt_of_le E D));have j:=hid G;have y:=hid (show w.heap.size≤H by omega);have g:=hid d;have U:=hid (T.below d);clear F u G I C o O P D Q E z3 d q0
 refine(z.out s t _ U.out A.out B.out).mono ?_
 rintro e w4 ⟨⟨r,k,rfl,M⟩,f⟩;have V:=hid M;have l:=hid (j.below f j.lt);have x:=hid (g.trans (f.mono g.size));clear M f
 go_wp2_with (first
  |((with_reducible refine au 40 ?parts (gz k r) ?hg ?ho ?hf ?_);(case hg|ho=>rfl);(case hf=>exact wX k r))
  |((with_reducible refine aa 40 (.tmp 4) (.tmp 20) H (cF 0) (gz k r) 40 l.out rfl iO (rh k r) ?hgd ?ho ?hx ?hy ?_);(case hgd|ho|hx|hy=>rfl);(intro w5 S o5))
  |fail)
 (try simp only[Exit.inBlock,Exit.then])
 refine bodyPost_ret (aY rfl _ _ S.range rfl underlying40 rfl iO) rfl ⟨⟨r,k,rfl,V.out⟩,o5.below x.out y.out⟩
theorem wY (R:ByteArray→Int→Prop) (i:ap) (v:ai) (c:aG) (w:World) (h:al w i v) (B:c.kind=3) (I:∀m,al m i v→Calls prog 26 #[.pointer (some ⟨i.vb,0,none⟩), .int .i64 c.lba, .int .i64 c.epoch] m fun e w'=>gy R m e w'):
  Calls prog 9 #[.pointer (some ⟨i.vb,0,none⟩),c.v] w fun e w'=>(∃r k,e= .returned (.agg (gz k r).toArray)∧R r k)∧Below w.heap.size w w':=by
 have z:=hid (fun(m:World) (hx:al m i v)=>yi R i v c m hx B I);obtain⟨L,lba,a,g,d,f,N,M,K⟩:=c;simp only at B;subst B;have U:∀(H:Fn) (first s:Array Value) (w:World),(Instr.makeFunc H first s).run prog w= .ok (.func H first s) w:=fun _ _ _ _=>rfl
 have E:=hid h;clear h I;go_enter func9,ntmps9
 go_wp2_with (first
  |((with_reducible refine ae 36 (.tmp 1) (aG.cells ⟨3,lba,a,g,d,f,N,M,K⟩) (some 3) ?hgd ?ho ?hd ?hx ?_);(case hgd|ho|hd|hx=>rfl);(intro S Y t C G x))
  |((with_reducible refine ab 40 _ eI (some 4) ?hgd ?ho ?hd ?_);(case hgd|ho|hd=>rfl);(intro T w2 u D A X))
  |fail)
 have j:Below w.heap.size w w2:=(G.mono t).trans (A.mono (Nat.le_trans t (Nat.le_trans (Nat.le_of_lt x) u)));have n:=hid (Nat.le_trans t (Nat.le_trans (Nat.le_of_lt x) u));have o:=hid (C.below A (Nat.lt_of_lt_of_le x u));have p:=hid D;have b:=hid j;have F:=hid (E.below j);have P:=hid (E.fresh n.out);clear C D G A t u x X j
 refine(aP i v _ F.out).mono ?_
 rintro e w' ⟨rfl,rfl⟩;have W:=o.cell (i:=0) rfl
 go_wp2_with (first
  |((with_reducible refine aj 36 (.tmp 3) S (aG.cells ⟨3,lba,a,g,d,f,N,M,K⟩) 36 _ o.out underlying36 rfl wW ?hgd ?ho ?hx ?_);(case hgd|ho|hx=>rfl))
  |fail)
 refine(z.out _ F.out).mono ?_
 rintro e Z ⟨⟨r,k,rfl,J⟩,l⟩;have Q:=hid J;have q:=hid (p.below l p.lt);have y:=hid (b.trans (l.mono b.size));clear J l W
 go_wp2_with (first
  |((with_reducible refine aa 40 (.tmp 4) (.tmp 20) T (cF 0) (gz k r) 40 q.out rfl iO (rh k r) ?hgd ?ho ?hx ?hy ?_);(case hgd|ho|hx|hy=>rfl);(intro w5 O V))
  |fail)
 (try simp only[Exit.inBlock,Exit.then])
 refine bodyPost_ret (aY rfl _ _ O.range rfl underlying40 rfl iO) rfl ⟨⟨r,k,rfl,Q.out⟩,V.below y.out n.out⟩
def oU (v:ai) (b:av):List Value:=[.int .i64 0, .string ⟨#[]⟩]++jy v b
theorem zS {v:ai} {b:av}:(prog.info? 40).map (·.size)=some (oU v b).length:=by kernel_rfl
theorem wZ {v:ai} {b:av}:(prog.info? 38).map (·.size)=some (jy v b).length:=by kernel_rfl
theorem J4 (v:ai) (b:av):∀x∈oU v b,x.oneCell'=true:=by
 intro x a;unfold oU at a
 rcases List.mem_append.1 a with a|a
 ·simp at a;rcases a with rfl|rfl<;>rfl
 ·exact vy v b x a
theorem Gy (a b c d e f:Int):prog.built 40 [(0, .int .i64 0),(2, .agg #[.int .i64 a, .int .i64 b, .int .i64 c, .int .i64 d, .int .i64 e, .int .i64 f])]=some (#[.int .i64 0, .string ⟨#[]⟩, .int .i64 a, .int .i64 b, .int .i64 c, .int .i64 d, .int .i64 e, .int .i64 f]:Array Value):=by kernel_rfl
theorem Gz (v:ai) (b:av):prog.built 40 [(0, .int .i64 0),(2, .agg (jy v b).toArray)]=some (oU v b).toArray:=Gy v.epoch v.clock (bX v.last.geo v.used) (v.sealed.length:Int) ((dn v.vers).1:Int) (b.holds.length:Int)
theorem uy (i:ap) (v:ai) (b:av) (c:aG) (w:World) (h:al w i v) (T:c.kind=10) (X:bp v) (r:br v.U v.L v.G b) (t:v.vers.length≤4096) (s:v.sealed.length≤1048576):
  Calls prog 9 #[.pointer (some ⟨i.vb,0,none⟩),c.v] w fun e w'=>e= .returned (.agg (oU v b).toArray)∧Below w.heap.size w w':=by
 have C:=hid (fun(Z:World) (hx:al Z i v)=>Ee i v b Z hx X r t s);clear X r t s;obtain⟨V,lba,f,x,q,u,kp,kn,kc⟩:=c;simp only at T;subst T;have aA:∀(S:Fn) (first p:Array Value) (w:World),(Instr.makeFunc S first p).run prog w= .ok (.func S first p) w:=fun _ _ _ _=>rfl
 have N:=hid h;clear h;go_enter func9,ntmps9
 go_wp2_with (first
  |((with_reducible refine ae 36 (.tmp 1) (aG.cells ⟨10,lba,f,x,q,u,kp,kn,kc⟩) (some 3) ?hgd ?ho ?hd ?hx ?_);(case hgd|ho|hd|hx=>rfl);(intro b3 w1 y I Q A))
  |((with_reducible refine ab 40 _ eI (some 4) ?hgd ?ho ?hd ?_);(case hgd|ho|hd=>rfl);(intro b4 w2 z J F z2))
  |fail)
 have g:Below w.heap.size w w2:=(Q.mono y).trans (F.mono (Nat.le_trans y (Nat.le_trans (Nat.le_of_lt A) z)));have m:=hid (Nat.le_trans y (Nat.le_trans (Nat.le_of_lt A) z));have D:=hid (I.below F (Nat.lt_of_lt_of_le A z));have n:=hid J;have a:=hid g;have O:=hid (N.below g);have an:=hid (N.fresh m.out);clear I J Q F y z A z2 g
 refine(aP i v _ O.out).mono ?_
 rintro e w' ⟨rfl,rfl⟩;have q0:=D.cell (i:=0) rfl;go_wp2_with fail
 refine(C.out _ O.out).mono ?_
 rintro e Y ⟨rfl,j⟩;have d:=hid (n.below j n.lt);have l:=hid (a.trans (j.mono a.size));clear j q0
 go_upto_region 11 with(first
  |((with_reducible refine ab 38 _ wT (some 6) ?hgd ?ho ?hd ?_);(case hgd|ho|hd=>rfl);(intro P w4 H K R z4))
  |((with_reducible refine aa 38 (.tmp 6) (.tmp 26) P m7 (jy v b) 38 K rfl wZ (vy v b) ?hgd ?ho ?hx ?hy ?_);(case hgd|ho|hx|hy=>rfl);(intro w5 M W))
  |fail)
 have k:Below Y.heap.size Y w5:=W.below (R.mono H) H;have E:=hid M;have o:=hid (d.below k d.lt);have B:=hid (l.trans (k.mono l.size));clear K M R H z4 W k
 go_wp2_with (first
  |((with_reducible refine aj 38 (.tmp 6) P (jy v b) 38 _ E.out underlying38 rfl wZ ?hgd ?ho ?hx ?_);(case hgd|ho|hx=>rfl))
  |((with_reducible refine au 40 ?parts30 (oU v b) ?hg ?ho ?hf ?_);(case hg|ho=>rfl);(case hf=>refine Eq.trans ?_ (Gz v b);kernel_rfl))
  |((with_reducible refine aa 40 (.tmp 4) (.tmp 30) b4 (cF 0) (oU v b) 40 o.out rfl zS (J4 v b) ?hgd ?ho ?hx ?hy ?_);(case hgd|ho|hx|hy=>rfl);(intro w6 B6 o6))
  |fail)
 (try simp only[Exit.inBlock,Exit.then])
 refine bodyPost_ret (aY rfl _ _ B6.range rfl underlying40 rfl zS) rfl ⟨rfl,o6.below B.out m.out⟩
structure AM where
 geo:aH
 used:Int
 clock:Int
 epoch:Int
 now:Int
 b:av
 nrec:Int
 L:List AV
 root:ByteArray
def AM.new (g:aH) (root:ByteArray):AM:=⟨g,0,0,g.first,0,av.none,0,[],root⟩
structure aS (v:ai) (m:AM) (log:List LE) (g:Int):Prop where
 ok:bp v
 key:v.key.size=32
 data:v.data.size=16
 geo:v.last.geo=m.geo
 first:v.first=m.geo.first
 used:v.used=m.used
 epoch:v.epoch=m.epoch
 clock:v.clock=m.clock
 now:v.now=m.now
 e0:m.geo.first≤m.epoch
 e1:m.epoch≤4294967295
 le:v.last.epoch=v.epoch
 nrec:(v.sealed.length:Int)=m.nrec
 tame:jJ v.sealed
 last:(bO v.sealed).size=32
 c0:v.last.clock≤m.clock
 t0:0≤m.now
 t1:m.now≤m.clock
 t2:m.clock≤1099511627776
 gen:v.last.gen≤g
 maps:br v.U v.L v.G m.b
 n:v.n≤log.length
 nr:v.sealed.length≤log.length
 lenG:(log.length:Int)=m.used
 ent:∀k e,(log.map LE.ent)[k]?=some e→eA v k e
 is:bY log v.data m.b v.vers
 L:m.L=log.filterMap LE.ver
 vl:v.vers.length=m.L.length
 gone:∀e,m.b.gone e=true→e<m.epoch
 chain:jP m.root m.geo.first m.epoch m.now v.key.data.toList v.sealed
 roots:cO log v.vers m.b m.epoch v.sealed
 rep:Rep m.geo.first log ⟨m.epoch,m.now,m.b,v.sealed,v.vers⟩
 img:eJ v
theorem nK (l:List aD) (x:aD):bO (l++[x])=x.tag:=by unfold bO;rw[List.getLast?_append];rfl
theorem aS.used_le {v:ai} {m:AM} {log:List LE} {g:Int} (h:aS v m log g):log.length≤1020:=by
 have a:=h.lenG;have b:=h.used;have c:=h.ok.u1;have d:=h.ok.sup.geo.b1;omega
theorem aS.f0 {v:ai} {m:AM} {log:List LE} {g:Int} (h:aS v m log g):0≤m.geo.first:=by rw[←h.geo];exact h.ok.sup.geo.f0
theorem aS.may {v:ai} {m:AM} {log:List LE} {g:Int} (h:aS v m log g) (a:g<1152921504606846976):jL v m.b where
 ok:=h.ok
 key:=h.key
 e0:=by rw[h.epoch];have:=h.e0;have:=h.f0;omega
 e1:=by rw[h.epoch];exact h.e1
 sealed:=by have:=h.nr;have:=h.used_le;omega
 tame:=h.tame
 last:=h.last
 c0:=by rw[h.clock];exact h.c0
 gen:=by have:=h.gen;omega
 t1:=by rw[h.clock];exact h.t2
 maps:=h.maps
 n:=by have:=h.n;have:=h.used_le;omega
theorem aS.close {v:ai} {m:AM} {log:List LE} {g:Int} (h:aS v m log g) (a:g<1152921504606846976) (b:m.epoch<4294967295) (hu:m.used<m.geo.blocks-4):oa v where
 ok:=h.ok
 key:=h.key
 e0:=(h.may a).e0
 e1:=by rw[h.epoch];exact b
 room:=by rw[h.used,h.geo];exact hu
 sealed:=(h.may a).sealed
 tame:=h.tame
 last:=h.last
 c0:=(h.may a).c0
 gen:=(h.may a).gen
 ep:=h.le
 now:=by rw[h.now,h.clock];exact h.t1
 t0:=by rw[h.clock];have:=h.t0;have:=h.t1;omega
 t1:=(h.may a).t1
theorem aS.tick {v:ai} {m:AM} {log:List LE} {g:Int} (h:aS v m log g) {t:Int} (a:m.clock≤t) (b:t≤1099511627776):aS {v with clock:=t} {m with clock:=t} log g:=
 {h with
  ok:=⟨h.ok.sup,h.ok.u0,h.ok.u1,h.ok.calm⟩
  clock:=rfl
  c0:=Int.le_trans h.c0 a
  t1:=Int.le_trans h.t1 a
  t2:=b
  ent:=fun k e c=>(h.ent k e c).to rfl rfl (Int.le_refl _) rfl
  img:=⟨h.img.sup,h.img.old,h.img.key,h.img.bare,h.img.free⟩}
theorem aS.sync {v:ai} {m:AM} {log:List LE} {g:Int} (h:aS v m log g) (c:g<1152921504606846976) {q:ByteArray} (d:ah q (cG (dz v v.clock))):aS (iD v v.clock q) m log (g+1):=
 have a:=h.may c;have f:=h.ok.sup.geo.b0;have hc:=zI h.ok.calm (by omega) v.clock q
 {ok:=⟨h.ok.com a.c0 a.t1 a.gen,h.ok.u0,h.ok.u1,hc.mono (Nat.zero_le _)⟩
  key:=h.key,data:=h.data,geo:=h.geo,first:=h.first,used:=h.used,epoch:=h.epoch,clock:=h.clock,now:=h.now,e0:=h.e0,e1:=h.e1
  le:=h.le,nrec:=h.nrec,tame:=h.tame,last:=h.last
  c0:=by show v.clock≤m.clock;rw[h.clock];exact Int.le_refl _
  t0:=h.t0,t1:=h.t1,t2:=h.t2
  gen:=by show v.last.gen+1≤g+1;have:=h.gen;omega
  maps:=h.maps,n:=h.n,nr:=h.nr,lenG:=h.lenG
  ent:=fun k e b=>(h.ent k e b).to rfl rfl (Int.le_refl _) (by
   have:=qq h.ok.calm (by omega) v.clock q (4+(k:Int)) (by omega)
   refine Eq.trans this (if_neg ?_)
   show¬(v.last.gen+1) % 2=4+(k:Int)
   omega)
  is:=h.is,L:=h.L,vl:=h.vl,gone:=h.gone,chain:=h.chain,roots:=h.roots,rep:=h.rep,img:=h.img.com h.ok d}
theorem aS.write {v:ai} {m:AM} {log:List LE} {g:Int} (h:aS v m log g) {lba:Int} {s i a:ByteArray} {r:Value} (O:0≤lba) (I:lba<m.geo.lbas) (hu:v.used<v.last.geo.blocks-5)
  (K:ah i (dO s.data.toList (dZ v.data.data.toList v.epoch.toNat v.used.toNat s.size))) (J:ah a (cellL ⟨v.epoch,v.used,lba,false,i⟩)) (hc:bh ⟨v.epoch,v.used,lba,false,i⟩):
  aS (qi v lba a r) {m with used:=m.used+1,L:=m.L++[⟨lba,m.epoch,s⟩]} (log++[.cell ⟨lba,m.epoch,s⟩ ⟨v.epoch,v.used,lba,false,i⟩]) g:=by
 have A:(log.length:Int)=v.used:=h.lenG.trans h.used.symm;have D:v.used.toNat=log.length:=by omega
 have j:(log++[LE.cell ⟨lba,m.epoch,s⟩ ⟨v.epoch,v.used,lba,false,i⟩]).length=log.length+1:=by simp
 have u:vt v.data m.b log.length ⟨lba,m.epoch,s⟩ ⟨v.epoch,v.used,lba,false,i⟩:=by
  refine⟨rfl,h.epoch,A.symm, ?_,fun _=> ?_⟩
  ·show false=m.b.gone m.epoch
   cases hg:m.b.gone m.epoch with
   |false=>rfl
   |true=>have:=h.gone _ hg;omega
  ·show ah i (dO s.data.toList (dZ v.data.data.toList m.epoch.toNat log.length s.size))
   rw[←h.epoch,←D];exact K
 have E:∀(k:Nat) (y:AV) (d:ak),log[k]?=some (LE.cell y d)→y.epoch≤m.epoch:=fun k y d w=>by
  have z:eA v k (.cell d):=h.ent k _ (by rw[List.getElem?_map,w];rfl);have F:=z.e1;have M:=(h.is.fit k y d w).epoch;have N:=h.epoch;omega
 have l:=h.ok.put hu r a;have f:(qi v lba a r).vers=eC v.vers ⟨lba,m.epoch,(log.length:Int)⟩:=by show eC v.vers ⟨lba,v.epoch,v.used⟩= _;rw[h.epoch,A]
 exact{
  ok:=⟨l.sup,l.u0,l.u1,l.calm⟩
  key:=h.key,data:=h.data,geo:=h.geo,first:=h.first
  used:=by show v.used+1=m.used+1;rw[h.used]
  epoch:=h.epoch,clock:=h.clock,now:=h.now,e0:=h.e0,e1:=h.e1
  le:=h.le,nrec:=h.nrec,tame:=h.tame,last:=h.last
  c0:=h.c0,t0:=h.t0,t1:=h.t1,t2:=h.t2,gen:=h.gen,maps:=h.maps
  n:=by rw[j];exact Nat.le_succ_of_le h.n
  nr:=by rw[j];exact Nat.le_succ_of_le h.nr
  lenG:=by rw[j];show((log.length+1:Nat):Int)=m.used+1;have:=h.lenG;omega
  ent:=fun k e p=>by
   have o:(qi v lba a r).d.shown (4+(k:Int))=if 4+v.used=4+(k:Int)then a else v.d.shown (4+(k:Int)):=qp v r a (4+(k:Int))
   rw[List.map_append]at p
   by_cases C:k<log.length
   ·rw[List.getElem?_append_left (by simpa using C)]at p
    rw[if_neg (by omega)]at o
    exact(h.ent k e p).to rfl rfl (Int.le_refl _) o
   ·have B:k=log.length:=by have:=(List.getElem?_eq_some_iff.1 p).1;simp at this;omega
    subst B;rw[List.getElem?_append_right (by simp)]at p;simp at p;subst p;rw[if_pos (by omega)]at o;exact⟨hc,A.symm,by show lba<v.last.geo.lbas;rw[h.geo];exact I,by show v.first≤v.epoch;rw[h.first,h.epoch];exact h.e0,Int.le_refl _,by rw[o];exact J⟩
  is:=by rw[f];exact h.is.write u E
  L:=by show m.L++[_]= _;rw[h.L,List.filterMap_append];rfl
  vl:=by rw[f,kO,h.vl];simp
  gone:=h.gone,chain:=h.chain
  roots:=by rw[f];exact h.roots.write h.is rfl _
  rep:=h.rep.snoc _ (fun x c H=>by
   injection H with z F
   subst z F;exact⟨rfl,by rw[f];rfl⟩) (fun q G=>by cases G)
  img:=by
   have t:=h.img.put h.ok.u0 r a;exact⟨t.sup,t.old,t.key,t.bare,t.free⟩}
def AM.put (m:AM) (r:Rec):AM:={m with used:=m.used+1,now:=m.clock,b:=m.b.app r,nrec:=m.nrec+1}
theorem IP {b:av} {r:Rec} (h:r.kind≠5):(b.app r).gone=b.gone:=by
 unfold av.app
 split
 ·rfl
 ·split
  ·rfl
  ·split
   ·rfl
   ·rfl
theorem GA {b:av} {r:Rec} (h:r.kind=5) (e:Int):(b.app r).gone e=if e=r.target then true else b.gone e:=by
 unfold av.app;rw[if_neg (by omega),if_neg (by omega),if_neg (by omega),if_pos h]
theorem xa {b:av} {r:Rec} (h:r.kind=1):b.app r=b:=by
 unfold av.app;rw[if_neg (by omega),if_neg (by omega),if_neg (by omega),if_neg (by omega)]
theorem GB {first a now:Int} {b:av} {r:Rec} (h:cQ first a now b r=0):aI r=true:=by
 cases hq:aI r with
 |true=>rfl
 |false=>
  unfold cQ at h;rw[if_pos hq]at h
  cases h
theorem aS.sealedD {v:ai} {m:AM} {log:List LE} {g:Int} (h:aS v m log g) (D:g<1152921504606846976) {r:Rec} (hu:v.used<v.last.geo.blocks-5) (A:aI (aL v r)=true) (p:Value) {t o:ByteArray} (q:ByteArray) {n:Nat} {U L G:DataW Unit}
  (B:ah t (jj v.key.data.toList (bO v.sealed).data.toList (v.sealed.length:Int) (aL v r))) (E:br U L G (m.b.app (aL v r))) (hn:n≤v.n+1) {d:am} (hc:Calm d v.last.geo.blocks.toNat 0) {a:List LE} (hl:a.length=log.length+1) (F:a.filterMap LE.ver=log.filterMap LE.ver)
  (i:∀k e,(a.map LE.ent)[k]?=some e→eA {cn v r p t o q n U L G with d:=d} k e) (w:bY a v.data (m.b.app (aL v r)) v.vers) (u:∀e,(m.b.app (aL v r)).gone e=true→e<m.epoch) (y:r.kind≠1) (x:cO a v.vers (m.b.app (aL v r)) m.epoch v.sealed)
  (l:Rep m.geo.first a ⟨m.epoch,m.clock,m.b.app (aL v r),v.sealed++[⟨aL v r,t⟩],v.vers⟩) (j:eJ {cn v r p t o q n U L G with d:=d}):
  aS {cn v r p t o q n U L G with d:=d} (m.put (aL v r)) a (g+1):=by
 have s:=h.may D;have C:=dh A;have f:=(h.ok.put hu p o).com s.c0 s.t1 s.gen;have c:t.size=32:=by rw[B.size,di]
 exact{
  ok:=⟨f,by show 0≤v.used+1;have:=h.ok.u0;omega,by show v.used+1≤v.last.geo.blocks-4;omega,hc.mono (Nat.zero_le _)⟩
  key:=h.key,data:=h.data,geo:=h.geo,first:=h.first
  used:=by show v.used+1=m.used+1;rw[h.used]
  epoch:=h.epoch,clock:=h.clock,now:=h.clock,e0:=h.e0,e1:=h.e1,le:=h.le
  nrec:=by show((v.sealed++[_]).length:Int)=m.nrec+1;rw[List.length_append];have:=h.nrec;simp;omega
  tame:=qa h.tame ⟨by show(aL v r).name.size≤1048576;omega,by show(aL v r).root.size≤1048576;omega,by rw[c];omega,s.fitsE⟩
  last:=by show(bO (v.sealed++[_])).size=32;rw[nK];exact c
  c0:=by show v.clock≤m.clock;rw[h.clock];exact Int.le_refl _
  t0:=by show 0≤m.clock;have:=h.t0;have:=h.t1;omega
  t1:=Int.le_refl _,t2:=h.t2
  gen:=by show v.last.gen+1≤g+1;have:=h.gen;omega
  maps:=E
  n:=by rw[hl];have:=h.n;exact Nat.le_trans hn (by omega)
  nr:=by rw[hl];show(v.sealed++[_]).length≤_;rw[List.length_append];have:=h.nr;simp;omega
  lenG:=by rw[hl];show((log.length+1:Nat):Int)=m.used+1;have:=h.lenG;omega
  ent:=i
  is:=w
  L:=by show m.L= _;rw[F,h.L]
  vl:=h.vl,gone:=u
  chain:=by
   have z:=h.chain.snoc A h.epoch (by show m.now≤v.clock;rw[h.clock];exact h.t1) B (.inr ⟨y,rfl,rfl⟩);rw[show(aL v r).time=m.clock from h.clock]at z;exact z
  roots:=x.other y
  rep:=l,img:=j}
theorem aS.repPut {v:ai} {m:AM} {log:List LE} {g:Int} (h:aS v m log g) {r:Rec} (d:r.kind≠1) (a:cQ m.geo.first m.epoch m.now m.b (aL v r)=0) {t:ByteArray} (i:t.size=32):Rep m.geo.first (log++[.held (eW (aL v r) t)]) ⟨m.epoch,m.clock,m.b.app (aL v r),v.sealed++[⟨aL v r,t⟩],v.vers⟩:=
 h.rep.snoc _ (fun x c j=>by cases j) (fun q f=>by
   injection f with f
   subst f;refine⟨aL v r,t,rfl,⟨a,i,fun e=>absurd e d,fun e=>absurd e d⟩, ?_⟩;unfold RS.put;rw[if_neg (show¬(aL v r).kind=1 from d),show(aL v r).time=m.clock from h.clock])
theorem uz {v:ai} (h:eJ v) (d:bp v) (hu:v.used<v.last.geo.blocks-5) (r:Rec) (c:Value) (t b:ByteArray) {q:ByteArray} (n:Nat) (U L G:DataW Unit) (e:ah q (cG (dz (jm v c b) v.clock))):eJ (cn v r c t b q n U L G):=by
 have a:=(h.put d.u0 c b).com (d.put hu c b) e;exact⟨a.sup,a.old,a.key,a.bare,a.free⟩
theorem aS.sealed {v:ai} {m:AM} {log:List LE} {g:Int} (h:aS v m log g) (u:g<1152921504606846976) {r:Rec} (s:r.kind≠5) (j:r.kind≠1) (hu:v.used<v.last.geo.blocks-5) (a:cQ m.geo.first m.epoch m.now m.b (aL v r)=0) (d:Value) {t f q:ByteArray} (y:ah q (cG (dz (jm v d f) v.clock))) {n:Nat} {U L G:DataW Unit}
  (p:ah t (jj v.key.data.toList (bO v.sealed).data.toList (v.sealed.length:Int) (aL v r))) (x:ah f (holdL (cD (aL v r)++t.data.toList))) (w:br U L G (m.b.app (aL v r))) (hn:n≤v.n+1):
  aS (cn v r d t f q n U L G) (m.put (aL v r)) (log++[.held (eW (aL v r) t)]) (g+1):=by
 have o:=GB a;have i:t.size=32:=by rw[p.size,di]
 have c:(m.b.app (aL v r)).gone=m.b.gone:=IP s;refine h.sealedD u hu o d q p w hn (nH h.ok hu r d t f q n U L G) (by simp) (by rw[List.filterMap_append];simp[LE.ver]) (fun k e l=> ?_) (h.is.record c _) (by rw[c];exact h.gone) j (h.roots.record h.is c _) (h.repPut j a i) (uz h.img h.ok hu r d t f n U L G y);refine uo h.ok hu (log:=log.map LE.ent) (by rw[List.length_map];exact h.lenG.trans h.used.symm) h.ent o d q n U L G i x k e ?_;rw[List.map_append]at l;exact l
theorem aS.purged {v:ai} {m:AM} {log:List LE} {g:Int} (h:aS v m log g) (w:g<1152921504606846976) {r:Rec} (D:r.kind=5) (z:r.target<m.epoch) (hu:v.used<v.last.geo.blocks-5) (f:cQ m.geo.first m.epoch m.now m.b (aL v r)=0) (a:Value) {t c q:ByteArray} (H:ah q (cG (dz (jm v a c) v.clock))) {n:Nat} {U L G:DataW Unit}
  (C:ah t (jj v.key.data.toList (bO v.sealed).data.toList (v.sealed.length:Int) (aL v r))) (E:br U L G (m.b.app (aL v r))) (hn:n≤v.n+1) {d:am} (hc:Calm d v.last.geo.blocks.toNat 0) (A:∀j,0≤j→(j<4∨4+(v.used+1)≤j)→d.shown j=(cn v r a t c q n U L G).d.shown j)
  (p:∀j e,(log.map LE.ent++[qY v r t])[j]?=some e→eA {cn v r a t c q n U L G with d:=d} j (qX r.target e)):
  aS {cn v r a t c q n U L G with d:=d} (m.put (aL v r)) ((log++[LE.held (eW (aL v r) t)]).map (cZ r.target)) (g+1):=by
 have F:=GB f;have l:r.kind≠1:=by omega
 have y:t.size=32:=by rw[C.size,di]
 have i:∀e,(m.b.app (aL v r)).gone e=if e=r.target then true else m.b.gone e:=fun e=>GA (r:=aL v r) D e
 have u:bp (cn v r a t c q n U L G):=⟨(h.ok.put hu a c).com (h.may w).c0 (h.may w).t1 (h.may w).gen,by show 0≤v.used+1;have:=h.ok.u0;omega,by show v.used+1≤v.last.geo.blocks-4;omega,(nH h.ok hu r a t c q n U L G).mono (Nat.zero_le _)⟩;have s:eJ {cn v r a t c q n U L G with d:=d}:=(uz h.img h.ok hu r a t c n U L G H).disk u A;refine h.sealedD w hu F a q C E hn hc (by simp) ?_ (fun k e o=> ?_) ((h.is.record rfl _).purge r.target i) (fun e o=> ?_) l ((h.roots.record h.is rfl _).purge (h.is.record rfl _) i) ((h.repPut l f y).wipe (h.is.record (b':=m.b) rfl _) r.target) s
 ·rw[List.filterMap_map]
  have:LE.ver∘cZ r.target=LE.ver:=funext fun e=>Gi r.target e
  rw[this,List.filterMap_append]
  show List.filterMap LE.ver log++[]= _
  rw[List.append_nil]
 ·rw[List.map_map,List.getElem?_map,Option.map_eq_some_iff]at o
  obtain⟨x,l,rfl⟩:=o
  show eA _ k (cZ r.target x).ent
  rw[Gh];refine p k _ ?_;have B:((log++[LE.held (eW (aL v r) t)]).map LE.ent)[k]?=some x.ent:=by rw[List.getElem?_map,l];rfl
  rw[List.map_append]at B;exact B
 ·rw[i]at o
  split at o
  ·rename_i l;rw[l];exact z
  ·exact h.gone e o
theorem aS.closed {v:ai} {m:AM} {log:List LE} {g:Int} (h:aS v m log g) (J:g<1152921504606846976) (R:m.epoch<4294967295) (hu:m.used<m.geo.blocks-4) {a:Int} (V:0≤a) (W:a≤4096) {s t y B kb q nb:ByteArray} (S:s.size=32) (K:ah s (re m.epoch (cellsOf log v.vers m.epoch))) (u:a=((cellsOf log v.vers m.epoch).length:Int)) (Z:ah B (iJ v.key.data.toList [110,101,120,116] []))
  (M:ah t (jj v.key.data.toList (bO v.sealed).data.toList (v.sealed.length:Int) (aE v a s))) (X:ah y (holdL (cD (aE v a s)++t.data.toList))) (hn:B.size=32) (Y:ah kb (ew (v.last.epoch+1) B.data.toList)) (tq:ah q (cG (ev v v.clock))) (H:nb=bT):
  aS (je v a s t y B kb q nb) {m.put (aE v a s)with epoch:=m.epoch+1} (log++[.held (eW (aE v a s) t)]) (g+1):=by
 have r:=h.close J R hu;have P:=h.may J;have j:=h.ok.sup;have Q:=j.geo.b0;have o:t.size=32:=by rw[M.size,di]
 have l:=kZ r V W S;have f:m.b.app (aE v a s)=m.b:=xa rfl;have w:=ol h.ok.calm h.ok.u0 (by have:=r.room;omega) (by omega) y kb q nb;have hk:(log.length:Int)=v.used:=h.lenG.trans h.used.symm
 exact{
  ok:=⟨⟨j.geo,by show 1≤v.last.gen+1;have:=j.g0;omega,by show v.last.gen+1≤1152921504606846976;have:=h.gen;omega,by show 0≤v.used+1;have:=h.ok.u0;omega,by show v.used+1≤v.last.geo.blocks-4;have:=r.room;omega,by show v.last.geo.first≤v.last.epoch+1;have:=j.e0;omega,by show v.last.epoch+1<4294967296;have:=h.le;have:=h.epoch;omega,r.t0,r.t1⟩,by show 0≤v.used+1;have:=h.ok.u0;omega,by show v.used+1≤v.last.geo.blocks-4;have:=r.room;omega,w.mono (Nat.zero_le _)⟩
  key:=hn,data:=h.data,geo:=h.geo,first:=h.first
  used:=by show v.used+1=m.used+1;rw[h.used]
  epoch:=by show v.epoch+1=m.epoch+1;rw[h.epoch]
  clock:=h.clock,now:=h.clock
  e0:=by show m.geo.first≤m.epoch+1;have:=h.e0;omega
  e1:=by show m.epoch+1≤4294967295;omega
  le:=by show v.last.epoch+1=v.epoch+1;rw[h.le]
  nrec:=by show((v.sealed++[_]).length:Int)=m.nrec+1;rw[List.length_append];have:=h.nrec;simp;omega
  tame:=qa h.tame ⟨by show(0:Nat)≤1048576;omega,by show s.size≤1048576;omega,by rw[o];omega,P.fitsE⟩
  last:=by show(bO (v.sealed++[_])).size=32;rw[nK];exact o
  c0:=by show v.clock≤m.clock;rw[h.clock];exact Int.le_refl _
  t0:=by show 0≤m.clock;have:=h.t0;have:=h.t1;omega
  t1:=Int.le_refl _,t2:=h.t2
  gen:=by show v.last.gen+1≤g+1;have:=h.gen;omega
  maps:=by show br v.U v.L v.G (m.b.app (aE v a s));rw[f];exact h.maps
  n:=by simp;have:=h.n;show v.n≤_;omega
  nr:=by show(v.sealed++[_]).length≤_;rw[List.length_append,List.length_append];have:=h.nr;simp;omega
  lenG:=by rw[List.length_append];show((log.length+1:Nat):Int)=m.used+1;have:=h.lenG;omega
  ent:=fun k e i=>by
   have p:(je v a s t y B kb q nb).d.shown (4+(k:Int))=if 4+v.used=4+(k:Int)then y else v.d.shown (4+(k:Int)):=ke h.ok.calm h.ok.u0 (by have:=r.room;omega) (by omega) y kb q nb _ (by omega)
   rw[List.map_append]at i
   by_cases F:k<log.length
   ·rw[List.getElem?_append_left (by simpa using F)]at i
    rw[if_neg (by omega)]at p
    exact(h.ent k e i).to rfl rfl (by show v.epoch≤v.epoch+1;omega) p
   ·have E:k=log.length:=by have:=(List.getElem?_eq_some_iff.1 i).1;simp at this;omega
    subst E;rw[List.getElem?_append_right (by simp)]at i;simp at i;subst i;rw[if_pos (by omega)]at p;have O:=eO l;have z:(cD (aE v a s)++t.data.toList).length=(cD (aE v a s)).length+32:=by rw[List.length_append,show t.data.toList.length=32 from o]
    have A:(eW (aE v a s) t).size=(cD (aE v a s)).length+32:=by show(cD (aE v a s)++t.data.toList).toArray.size= _;simp[←z]
    exact⟨by rw[A];omega,by rw[A];omega,by rw[p];simpa[eW]using X⟩
  is:=h.is.record (b':=m.b.app (aE v a s)) (by rw[f]) _
  L:=by show m.L= _;rw[h.L,List.filterMap_append];simp[LE.ver]
  vl:=h.vl
  gone:=fun e D=>by
   have:m.b.gone e=true:=by rw[←f];exact D
   have:=h.gone e this
   show e<m.epoch+1
   omega
  chain:=by
   have C:=h.chain.snoc l h.epoch (by show m.now≤v.clock;rw[h.clock];exact h.t1) M (.inl ⟨rfl,rfl,Z⟩);rw[show(aE v a s).time=m.clock from h.clock]at C;exact C
  roots:=by
   show cO _ v.vers (m.b.app (aE v a s)) (m.epoch+1) _
   rw[f];have C:=(h.roots.record h.is rfl (LE.held (eW (aE v a s) t))).close (x:=⟨aE v a s,t⟩) h.epoch (by rw[kR h.is];exact u) (by rw[kR h.is];exact K);exact C
  rep:=by
   show Rep m.geo.first _ ⟨m.epoch+1,m.clock,m.b.app (aE v a s),v.sealed++[⟨aE v a s,t⟩],v.vers⟩
   rw[f];refine h.rep.snoc _ (fun x c T=>by cases T) (fun q I=> ?_)
   injection I with I
   subst I;refine⟨aE v a s,t,rfl,⟨?_,o,fun _=>u,fun _ _=>K⟩, ?_⟩
   ·show cQ m.geo.first m.epoch m.now m.b (aE v a s)=0
    unfold cQ
    rw[if_neg (by rw[l];decide),if_neg (by
     rintro(z|z)
     ·exact z h.epoch
     ·have N:v.clock<m.now:=z
      rw[h.clock]at N
      have:=h.t1
      omega)]
    rfl
   ·show _=RS.put ⟨m.epoch,m.now,m.b,v.sealed,v.vers⟩ (aE v a s) t
    unfold RS.put;rw[if_pos (show(aE v a s).kind=1 from rfl),f,show(aE v a s).time=m.clock from h.clock]
  img:=h.img.close h.ok r.room Y tq H}
def iP (m:AM) (lba:Int):Int:=if lba<0∨m.geo.lbas≤lba then 4 else 0
def gA (m:AM) (ep:Int):Int:=if ep<m.geo.first∨m.epoch<ep then 7 else if ep=m.epoch then 8 else 0
def AM.mark (m:AM) (r:Rec):Rec:={r with epoch:=m.epoch,time:=m.clock}
def AM.seal (m:AM) (r:Rec):Int×AM:=
 if cQ m.geo.first m.epoch m.now m.b (m.mark r)=0 then(if bX m.geo m.used=0 then(5,m)else(0,m.put (m.mark r)))else(cQ m.geo.first m.epoch m.now m.b (m.mark r),m)
def gB (q:Int) (m:AM) (s:Int×AM):Int×AM:=if q=0 then s else(q,m)
def AM.closeA (m:AM):AM:={m with used:=m.used+1,now:=m.clock,nrec:=m.nrec+1,epoch:=m.epoch+1}
def AM.writeA (m:AM) (lba:Int) (s:ByteArray):AM:={m with used:=m.used+1,L:=m.L++[⟨lba,m.epoch,s⟩]}
def dF (m:AM) (c:aG):Int×AM:=
 if c.kind=1 then gB (if iP m c.lba=0 then(if 4000<(c.data.size:Int)then 2 else if bX m.geo m.used=0 then 5 else 0)else iP m c.lba) m (0,m.writeA c.lba c.data)
 else if c.kind=4 then(0,m)
 else if c.kind=5 then(if 4294967295≤m.epoch∨¬m.used<m.geo.blocks-4 then(6,m)else(0,m.closeA))
 else if c.kind=6 then gB (if gA m c.epoch=0 then(if c.time<0∨1099511627776<c.time then 2 else 0)else gA m c.epoch) m (m.seal ⟨2,0,0,0,c.epoch,c.time,⟨#[]⟩,⟨#[]⟩⟩)
 else if c.kind=7 then gB (if bN c.name.data.toList=true then gA m c.epoch else 2) m (m.seal ⟨3,0,0,0,c.epoch,0,⟨#[]⟩,c.name⟩)
 else if c.kind=8 then gB (if bN c.name.data.toList=true then 0 else 2) m (m.seal ⟨4,0,0,0,0,0,⟨#[]⟩,c.name⟩)
 else if c.kind=9 then gB (gA m c.epoch) m (m.seal ⟨5,0,0,0,c.epoch,m.b.till c.epoch,⟨#[]⟩,⟨#[]⟩⟩)
 else if c.kind=11 then gB (fN m.clock c.time) m (0,{m with clock:=c.time})
 else(2,m)
def Goes (i:ap) (g:Int) (q:Int×AM) (k:Int) (i':ap) (v':ai):Prop:=k=q.1∧(i'.rv,i'.vb,i'.db)=(i.rv,i.vb,i.db)∧∃log',aS v' q.2 log' g
theorem aS.mono {v:ai} {m:AM} {log:List LE} {g g':Int} (h:aS v m log g) (a:g≤g'):aS v m log g':={h with gen:=Int.le_trans h.gen a}
theorem aS.placeE {v:ai} {m:AM} {log:List LE} {g:Int} (h:aS v m log g) (lba:Int):iq v lba=iP m lba:=by unfold iq iP;rw[h.geo]
theorem aS.closedE {v:ai} {m:AM} {log:List LE} {g:Int} (h:aS v m log g) (ep:Int):eH v ep=gA m ep:=by unfold eH gA;rw[h.geo,h.epoch]
theorem aS.recE {v:ai} {m:AM} {log:List LE} {g:Int} (h:aS v m log g) (r:Rec):aL v r=m.mark r:=by unfold aL AM.mark;rw[h.epoch,h.clock]
theorem aS.mayE {v:ai} {m:AM} {log:List LE} {g:Int} (h:aS v m log g) (r:Rec):cQ v.first v.epoch v.now m.b (aL v r)=cQ m.geo.first m.epoch m.now m.b (m.mark r):=by rw[h.recE,h.first,h.epoch,h.now]
theorem aS.roomE {v:ai} {m:AM} {log:List LE} {g:Int} (h:aS v m log g):bX v.last.geo v.used=bX m.geo m.used:=by rw[h.geo,h.used]
theorem stays {w w':World} {i:ap} {v:ai} {m:AM} {log:List LE} {g:Int} (b:al w i v) (h:aS v m log g) (hb:Below w.heap.size w w') {k:Int} {q:Int×AM} (a:q=(k,m)):Step (Goes i (g+1) q) w i v (.returned (.int .i64 k)) w':=
 ⟨k,i,v,rfl,(aJ.refl b).below hb,by rw[a],rfl,log,by rw[a];exact h.mono (by omega)⟩
theorem bM.step {w w':World} {i:ap} {v:ai} {m:AM} {log:List LE} {g:Int} {e:Ending} {q:Int} {P:Prop} {s:Int×AM} (h:bM q w w' e P) (c:al w i v) (b:aS v m log g) (hp:q=0→P→Step (Goes i (g+1) s) w i v e w'):Step (Goes i (g+1) (gB q m s)) w i v e w':=by
 unfold bM at h
 by_cases a:q=0
 ·rw[if_pos a]at h
  rw[show gB q m s=s from if_pos a];exact hp a h
 ·rw[if_neg a]at h
  rw[show gB q m s=(q,m)from if_neg a,h.1];exact stays c b h.2 rfl
theorem vz {v:ai} (a:bp v) (h:¬bX v.last.geo v.used=0):v.used<v.last.geo.blocks-5:=by unfold bX at h;omega
theorem cK.step {w w':World} {i:ap} {v:ai} {m:AM} {log:List LE} {g:Int} {e:Ending} {r:Rec} (h:cK w i v m.b r e w') (k:al w i v) (a:aS v m log g) (s:g<1152921504606846976) (o:r.kind≠5) (f:r.kind≠1):Step (Goes i (g+1) (m.seal r)) w i v e w':=by
 unfold cK at h;rw[a.mayE,a.roomE]at h;unfold AM.seal
 by_cases c:cQ m.geo.first m.epoch m.now m.b (m.mark r)=0
 ·rw[if_pos c]at h ⊢
  by_cases d:bX m.geo m.used=0
  ·rw[if_pos d]at h ⊢
   rw[h.1];exact stays k a h.2 rfl
  ·rw[if_neg d]at h ⊢
   obtain⟨l,t,A,q,n,U,L,G,sv,z,x,y,u,hn,p,j⟩:=h;refine⟨0,_,_,p,j,rfl,rfl,log++[.held (eW (m.mark r) t)], ?_⟩
   have:=a.sealed s o f (vz a.ok (by rw[a.roomE];exact d)) (by rw[a.recE];exact c) l y z x u hn
   rw[a.recE]at this;exact this
 ·rw[if_neg c]at h ⊢
  rw[h.1];exact stays k a h.2 rfl
theorem gX.step {w w':World} {i:ap} {v:ai} {m:AM} {log:List LE} {g:Int} {e:Ending} {ep:Int} (h:gX w i v m.b ep (log.map LE.ent) e w') (p:al w i v) (a:aS v m log g) (x:g<1152921504606846976) (k:ep<m.epoch):Step (Goes i (g+1) (m.seal ⟨5,0,0,0,ep,m.b.till ep,⟨#[]⟩,⟨#[]⟩⟩)) w i v e w':=by
 unfold gX at h;rw[a.mayE,a.roomE]at h;unfold AM.seal
 by_cases f:cQ m.geo.first m.epoch m.now m.b (m.mark ⟨5,0,0,0,ep,m.b.till ep,⟨#[]⟩,⟨#[]⟩⟩)=0
 ·rw[if_pos f]at h ⊢
  by_cases j:bX m.geo m.used=0
  ·rw[if_pos j]at h ⊢
   rw[h.1];exact stays p a h.2 rfl
  ·rw[if_neg j]at h ⊢
   obtain⟨s,t,B,q,n,U,L,G,sv,d,A,C,z,y,hn,u,o,hc,c,l⟩:=h;refine⟨0,_,_,u,o,rfl,rfl,(log++[LE.held (eW (m.mark ⟨5,0,0,0,ep,m.b.till ep,⟨#[]⟩,⟨#[]⟩⟩) t)]).map (cZ ep), ?_⟩
   have:=a.purged x (r:=⟨5,0,0,0,ep,m.b.till ep,⟨#[]⟩,⟨#[]⟩⟩) rfl k (vz a.ok (by rw[a.roomE];exact j)) (by rw[a.recE];exact f) s z A y hn hc l c
   rw[a.recE]at this;exact this
 ·rw[if_neg f]at h ⊢
  rw[h.1];exact stays p a h.2 rfl
end Go.Proofs.YtadooplpfhdhcaaGreat
