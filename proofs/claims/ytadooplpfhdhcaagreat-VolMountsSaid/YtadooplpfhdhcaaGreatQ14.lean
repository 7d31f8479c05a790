/- A space's blocks, given out (chapter 13); how many there are (chapter 9). A journal within a volume (chapter 25): ready, Used, Room, Read, Append. Copies of rows; Seize (chapter 8). Looks of a volume; Rerig and Rig over a new disk (chapter 26). -/
import Derived.Test.YtadooplpfhdhcaaGreatQ8
import Derived.Deep.RegionHeld3
import Derived.Test.YtadooplpfhdhcaaGreatQ7
import Derived.Test.YtadooplpfhdhcaaGreatQ13
import Derived.Test.YtadooplpfhdhcaaGreatQ4
import Derived.OrdersHeld
import Derived.Lib.SliceRun
import Derived.Deep.DeepAppendWide
import Derived.Test.YtadooplpfhdhcaaGreatQ12
import Derived.Test.YtadooplpfhdhcaaGreatQ10
import Derived.Test.YtadooplpfhdhcaaGreatQ2
set_option linter.unusedSimpArgs false
set_option linter.unusedVariables false
set_option maxRecDepth 100000
set_option maxHeartbeats 4000000
namespace Go.Proofs.YtadooplpfhdhcaaGreat
open Go Go.RowKit
open Go.Lib (hid)
open Go.Proofs.Tryz
def bX (g:aH) (used:Int):Int:=max (g.blocks-5-used) 0
theorem xz (g:aH) (used:Int) (w:World) (c:cA g) (x:0≤used) (u:used≤g.blocks-4):
  Calls prog 229 #[g.v, .int .i64 used] w fun e w'=>e= .returned (.int .i64 (bX g used))∧Below w.heap.size w w':=by
 have j:=c.b1;have i:=c.b0;have hu:used≤1024:=by omega
 have hn:¬used<0:=by omega
 have o:min used 1024=used:=by omega
 obtain⟨r,k⟩:∃r,bX g used=r:=⟨_,rfl⟩;have s:=hid k;have q:=hid c;rw[k];clear k c;go_enter func229,ntmps229
 go_wp2_with (first
  |((with_reducible refine ae 23 (.tmp 0) g.cells (some 2) ?hgd ?ho ?hd ?hx ?_);(case hgd|ho|hd|hx=>rfl);(intro t y l m n p))
  |((with_reducible refine aj 23 (.tmp 2) t g.cells 23 _ m underlying23 rfl bG ?hgd ?ho ?hx ?_);(case hgd|ho|hx=>rfl))
  |fail)
 refine(iw g _ q.out).mono ?_
 rintro e z ⟨rfl,b⟩;have d:=hid ((n.mono l).trans (b.mono (Nat.le_trans l (Nat.le_of_lt p))));clear b m n l p;obtain⟨bl,a⟩:∃bl,g.blocks=bl:=⟨_,rfl⟩;have f:=hid a;rw[a]at j i u ⊢;clear a;go_wp2_with fail;go_ret;refine⟨?_,d.out⟩;have h:=s.out;unfold bX at h;rw[f.out]at h
 show Ending.returned (.int .i64 (max (bl-4-1-used) 0))= .returned (.int .i64 r)
 rw[←h,show bl-4-1-used=bl-5-used by omega]
theorem kU {w:World} {c:Nat} {g:aH} {b:Int} {t:TypeId} (h:ac w c (bL g b) t):w.rangeAt c 0 g.cells:=by
 intro j v a;rw[Nat.zero_add]
 match j,a with
 |0,a=>simp[aH.cells]at a;subst a;exact h.cell (i:=0) rfl
 |1,a=>simp[aH.cells]at a;subst a;exact h.cell (i:=1) rfl
 |2,a=>simp[aH.cells]at a;subst a;exact h.cell (i:=2) rfl
 |j+3,a=>simp[aH.cells]at a
theorem nQ (f:Nat) (g:aH) (a:Int) (w:World) (h:ac w f (bL g a) 242) (m:cA g) (o:0≤a) (p:a≤g.blocks-4):
  Calls prog 152 #[.pointer (some ⟨f,0,none⟩)] w fun e w'=>e= .returned (.int .i64 (bX g a))∧Below w.heap.size w w':=by
 go_enter func152,ntmps152;go_wp2_with fail
 refine(fS f g a _ h m).mono ?_
 rintro e w' ⟨rfl,rfl⟩;go_wp2_with fail;refine wp_region_held_drew (S:=fun n=>n.rangeAt f 0 g.cells∧n.cell? ⟨f,3,none⟩=some (.int .i64 a)) (by kernel_rfl) (⟨kU h.drew,h.drew.cell (i:=3) rfl⟩) (fun b=> ?_);refine hp 0 ?_;refine hp 1 ?_;refine hp 2 ?_;refine wpAnyH_take (i:=3) (v:= .agg (g.cells).toArray) rfl (by kernel_rfl) (by kernel_rfl) (by kernel_rfl) (fun _ _ _ h=>h) (yieldsIf_load_mid (by rfl) 23 (.tmp 8) rfl f 0 rfl (g.cells) _ (fun w h=>h.1) underlying23 rfl bG) (by assumption) ?_
 (try go_frame)
 refine hp 4 ?_;refine hp 5 ?_;refine hp 6 ?_;refine hp 7 ?_;refine wpAnyH_ready (rs:=[8]) (by kernel_rfl) (by simp) ?_;refine AllReadyH.cons rfl (fun K l=> ?_) AllReadyH.nil;go_simp
 refine(xz g a _ m o p).mono ?_
 rintro e q ⟨rfl,d⟩;have k:=hid d;have j:=hid (h.drew.below d h.drew.lt);clear d
 (try go_wp2_with fail)
 refine l.out _ _ (⟨kU j.out,j.cell (i:=3) rfl⟩) (fun c=> ?_);clear l K b;have b:=c;clear c
 (try go_frame)
 refine hp 9 ?_;refine wpAnyH_done (by kernel_rfl) ?_ _;clear b;go_wp2_with fail;go_ret;exact⟨rfl,(Below.refl _ _).drew.trans k.out⟩
theorem kr (f:Nat) (g:aH) (c:Int) (w:World) (h:ac w f (bL g c) 242) (m:cA g):
  Calls prog 80 #[.pointer (some ⟨f,0,none⟩)] w fun e w'=>e= .returned (.bool (decide (c<g.blocks-4)))∧Below w.heap.size w w':=by
 go_enter func80,ntmps80;go_wp2_with fail;refine wp_region_held_drew (S:=fun n=>n.rangeAt f 0 g.cells∧n.cell? ⟨f,3,none⟩=some (.int .i64 c)) (by kernel_rfl) (⟨kU h.drew,h.drew.cell (i:=3) rfl⟩) (fun b=> ?_);refine hp 0 ?_;refine wpAnyH_ready (rs:=[1]) (by kernel_rfl) (by simp) ?_;refine AllReadyH.cons rfl (fun K l=> ?_) AllReadyH.nil;go_simp
 refine(fS f g c _ h.drew m).mono ?_
 rintro e w' ⟨rfl,rfl⟩
 (try go_wp2_with fail)
 refine l.out _ _ (⟨kU h.drew,h.drew.cell (i:=3) rfl⟩) (fun a=> ?_);clear l K b;have b:=a;clear a
 (try go_frame)
 refine hp 2 ?_;refine hp 3 ?_;refine hp 4 ?_;refine hp 5 ?_;refine hp 6 ?_;refine hp 7 ?_;refine hp 8 ?_;refine hp 9 ?_;refine wpAnyH_take (i:=10) (v:= .agg (g.cells).toArray) rfl (by kernel_rfl) (by kernel_rfl) (by kernel_rfl) (fun _ _ _ h=>h) (yieldsIf_load_mid (by rfl) 23 (.tmp 12) rfl f 0 rfl (g.cells) _ (fun w h=>h.1) underlying23 rfl bG) (by assumption) ?_
 (try go_frame)
 refine wpAnyH_ready (rs:=[11]) (by kernel_rfl) (by simp) ?_;refine AllReadyH.cons rfl (fun K l=> ?_) AllReadyH.nil;go_simp
 refine(iw g _ m).mono ?_
 rintro e o ⟨rfl,d⟩;have j:=hid d;have k:=hid (h.drew.below d h.drew.lt);clear d
 (try go_wp2_with fail)
 refine l.out _ _ (⟨kU k.out,k.cell (i:=3) rfl⟩) (fun a=> ?_);clear l K b;have b:=a;clear a
 (try go_frame)
 refine hp 12 ?_;refine hp 13 ?_;refine hp 14 ?_;refine wpAnyH_done (by kernel_rfl) ?_ _;clear b;go_wp2_with fail;go_ret
 first
  |exact⟨rfl,(Below.refl _ _).drew.trans j.out⟩
  |exact⟨dX (by simp),(Below.refl _ _).drew.trans j.out⟩
theorem uN (a:Nat) (g:aH) (used:Int) (w:World) (h:ac w a (bL g used) 242) (c:cA g) (b:0≤used) (d:used<g.blocks-5):
  Calls prog 235 #[.pointer (some ⟨a,0,none⟩)] w fun e w'=>e= .returned (.bool true)∧Below w.heap.size w w':=by
 have f:0<bX g used:=by unfold bX;omega
 go_enter func235,ntmps235;go_wp2_with fail
 refine(nQ a g used _ h c b (by omega)).mono ?_
 rintro e w' ⟨rfl,hb⟩;go_wp2_with fail;go_ret;exact⟨rfl,hb⟩
theorem uO (a:Nat) (g:aH) (used:Int) (w:World) (h:ac w a (bL g used) 242) (c:cA g) (k:0≤used) (l:used<g.blocks-5):
  Calls prog 234 #[.pointer (some ⟨a,0,none⟩), .func (.func 235) #[.pointer (some ⟨a,0,none⟩)] #[], .int .i64 5] w fun e w'=>(e= .returned (.tuple #[.int .i64 used, .int .i64 0])∧ac w' a (bL g (used+1)) 242)∧af [a] w w':=by
 have m:=c.b1;have hu:used≤1024:=by omega
 have d:used+1-1=used:=by omega
 go_enter func234,ntmps234;go_wp2_with fail
 refine(fS a g used _ h c).mono ?_
 rintro e w' ⟨rfl,rfl⟩;go_wp2_with fail
 refine(uN a g used _ h c k l).mono ?_
 rintro e p ⟨rfl,hb⟩;have b:=h.below hb h.lt;have n:=b.cell (i:=3) rfl;have o:=b.free 3;have j:=hid hb;have f:=hid b;clear hb b;go_wp2_with fail;go_ret2;refine⟨⟨?_,(f.set 3 _).ext rfl⟩,(af.of_below j.out (Nat.le_refl _)).trans ((af.refl _ _).setCell (.inl (by simp)) 3 _)⟩
 first|rfl|(rw[d])
theorem uP (c:Nat) (g:aH) (a:Int) (w:World) (h:ac w c (bL g a) 242) (j:cA g) (f:0≤a) (i:a<g.blocks-5):
  Calls prog 161 #[.pointer (some ⟨c,0,none⟩)] w fun e w'=>(e= .returned (.tuple #[.int .i64 a, .int .i64 0])∧ac w' c (bL g (a+1)) 242)∧af [c] w w':=by
 have k:∀(d:Fn) (first b:Array Value) (w:World),(Instr.makeFunc d first b).run prog w= .ok (.func d first b) w:=fun _ _ _ _=>rfl
 go_enter func161,ntmps161;go_wp2_with fail
 refine(uO c g a _ h j f i).mono ?_
 rintro e m ⟨⟨rfl,hb⟩,l⟩;go_wp2_with fail;go_ret2;exact⟨⟨rfl,hb⟩,l⟩
theorem sY (a:Nat) (g:aH) (used:Int) (w:World) (h:ac w a (bL g used) 242) (c:cA g) (p:0≤used) (l:used<g.blocks-4):
  Calls prog 234 #[.pointer (some ⟨a,0,none⟩), .func (.func 80) #[.pointer (some ⟨a,0,none⟩)] #[], .int .i64 6] w fun e w'=>(e= .returned (.tuple #[.int .i64 used, .int .i64 0])∧ac w' a (bL g (used+1)) 242)∧af [a] w w':=by
 have m:=c.b1;have hu:used≤1024:=by omega
 have d:used+1-1=used:=by omega
 go_enter func234,ntmps234;go_wp2_with fail
 refine(fS a g used _ h c).mono ?_
 rintro e w' ⟨rfl,rfl⟩;go_wp2_with fail
 refine((kr a g used _ h c).mono (fun e w' f=>show e= .returned (.bool true)∧Below _ _ w' from⟨by rw[f.1,decide_eq_true l],f.2⟩)).mono ?_
 rintro e q ⟨rfl,hb⟩;have b:=h.below hb h.lt;have n:=b.cell (i:=3) rfl;have o:=b.free 3;have k:=hid hb;have j:=hid b;clear hb b;go_wp2_with fail;go_ret2;refine⟨⟨?_,(j.set 3 _).ext rfl⟩,(af.of_below k.out (Nat.le_refl _)).trans ((af.refl _ _).setCell (.inl (by simp)) 3 _)⟩
 first|rfl|(rw[d])
theorem sZ (c:Nat) (g:aH) (a:Int) (w:World) (h:ac w c (bL g a) 242) (j:cA g) (f:0≤a) (i:a<g.blocks-4):
  Calls prog 177 #[.pointer (some ⟨c,0,none⟩)] w fun e w'=>(e= .returned (.tuple #[.int .i64 a, .int .i64 0])∧ac w' c (bL g (a+1)) 242)∧af [c] w w':=by
 have k:∀(d:Fn) (first b:Array Value) (w:World),(Instr.makeFunc d first b).run prog w= .ok (.func d first b) w:=fun _ _ _ _=>rfl
 go_enter func177,ntmps177;go_wp2_with fail
 refine(sY c g a _ h j f i).mono ?_
 rintro e m ⟨⟨rfl,hb⟩,l⟩;go_wp2_with fail;go_ret2;exact⟨⟨rfl,hb⟩,l⟩
structure bp (v:ai):Prop where
 sup:eL v.last
 u0:0≤v.used
 u1:v.used≤v.last.geo.blocks-4
 calm:Calm v.d v.last.geo.blocks.toNat v.used.toNat
theorem bp.few {v:ai} (h:bp v):v.used.toNat≤1020:=by have:=h.u1;have:=h.sup.geo.b1;omega
theorem bp.blocks {v:ai} (h:bp v):v.last.geo.blocks.toNat≤1024:=by have:=h.sup.geo.b1;omega
theorem ix (i:ap) (v:ai) (w:World) (h:al w i v):
  Calls prog 113 #[.pointer (some ⟨i.jb,0,none⟩)] w fun e w'=>e= .returned (.int .i64 0)∧w=w':=by
 have a:=h.jour.cell (i:=1) rfl;have b:w.cell? ⟨i.jb,9,none⟩=some (.bool false):=h.jour.cell (i:=9) rfl;go_enter func113,ntmps113;go_wp2_with fail;go_ret;exact⟨rfl,rfl⟩
theorem oz (i:ap) (v:ai) (w:World) (h:al w i v) (a:bp v):
  Calls prog 75 #[.pointer (some ⟨i.jb,0,none⟩)] w fun e w'=>e= .returned (.int .i64 v.used)∧w=w':=by
 have b:=h.jour.cell (i:=0) rfl;go_enter func75,ntmps75;go_wp2_with fail
 refine(kG i.sb v.last.geo v.used _ h.space a.sup.geo).mono ?_
 rintro e w' ⟨rfl,rfl⟩;go_wp2_with fail;go_ret;exact⟨rfl,rfl⟩
theorem jT (i:ap) (v:ai) (w:World) (h:al w i v) (a:bp v):
  Calls prog 74 #[.pointer (some ⟨i.jb,0,none⟩)] w fun e w'=>e= .returned (.int .i64 (bX v.last.geo v.used))∧Below w.heap.size w w':=by
 have b:=h.jour.cell (i:=0) rfl;go_enter func74,ntmps74;go_wp2_with fail
 refine(nQ i.sb v.last.geo v.used _ h.space a.sup.geo a.u0 a.u1).mono ?_
 rintro e w' ⟨rfl,hb⟩;go_wp2_with fail;go_ret;exact⟨rfl,hb⟩
theorem oC (i:ap) (v:ai) (k:Int) (w:World) (h:al w i v) (p:bp v) (t:0≤k) (x:k<v.used):
  Calls prog 138 #[.pointer (some ⟨i.jb,0,none⟩), .int .i64 k] w fun e w'=>e= .returned (.tuple #[.string (v.d.shown (4+k)), .int .i64 0])∧Below w.heap.size w w':=by
 have r:=hid (show 0≤k∧k<v.last.geo.blocks-4 from⟨t,by have:=p.u1;omega⟩);obtain⟨o,n⟩:∃o:Nat,(o:Int)=4+k:=⟨(4+k).toNat,by omega⟩;have g:=hid n;have j:=hid (show o<v.last.geo.blocks.toNat from by have:=p.u1;omega);have c:=hid p;have s:=h.jour.cell (i:=0) rfl;clear p n;go_enter func138,ntmps138;go_wp2_with fail
 refine(ix i v _ h).mono ?_
 rintro e w' ⟨rfl,rfl⟩;go_wp2_with fail
 refine(kG i.sb v.last.geo v.used _ h.space c.sup.geo).mono ?_
 rintro e w' ⟨rfl,rfl⟩;go_upto_region 6 with fail;clear s;refine wp_region_held_drew (S:=fun u=>u.cell? ⟨i.jb,1,none⟩=some (.pointer (some ⟨i.db,0,none⟩))) (by kernel_rfl) (h.jour.drew.cell (i:=1) rfl) (fun b=> ?_);refine hp 0 ?_;refine hp 1 ?_;refine hp 2 ?_;refine hp 3 ?_;refine hp 4 ?_;refine hp 5 ?_;refine wpAnyH_ready (rs:=[6]) (by kernel_rfl) (by simp) ?_;refine AllReadyH.cons rfl (fun K l=> ?_) AllReadyH.nil;go_simp
 refine(iU i.jb i.db _ v.last k _ h.jour.drew c.sup.geo r.out.1 r.out.2).mono ?_
 rintro e y ⟨rfl,m⟩;have f:=hid ((Below.refl _ _).drew.trans m);have q:=hid (h.below f.out);clear m
 (try go_wp2_with fail)
 refine l.out _ _ (q.jour.cell (i:=1) rfl) (fun a=> ?_);clear l K b;have b:=a;clear a
 (try go_frame)
 refine wpAnyH_ready (rs:=[7]) (by kernel_rfl) (by simp) ?_;refine AllReadyH.cons rfl (fun K l=> ?_) AllReadyH.nil;go_simp;rw[←g.out]
 refine(eX i.db v.d _ q.disk c.calm.up o (by rw[c.calm.len];exact j.out) (by have:=c.calm.few;have:=c.few;omega) (by rw[c.calm.len];exact c.blocks)).mono ?_
 rintro e w' ⟨rfl,rfl⟩
 (try go_wp2_with fail)
 refine l.out _ _ (q.jour.cell (i:=1) rfl) (fun a=> ?_);clear l K b;have b:=a;clear a
 (try go_frame)
 refine hp 8 ?_;refine hp 9 ?_;refine hp 10 ?_;refine hp 11 ?_;refine wpAnyH_done (by kernel_rfl) ?_ _;clear b;go_wp2_with fail;go_ret2;exact⟨by show Ending.returned (.tuple #[.string (v.d.shown (o:Int)), .int .i64 0])= _;rw[g.out],f.out⟩
theorem mg (i:ap) (v:ai) (a:ByteArray) (w:World) (h:al w i v) (I:bp v) (hb:a.size=4096) (hu:v.used<v.last.geo.blocks-5):
  Calls prog 78 #[.pointer (some ⟨i.jb,0,none⟩), .string a] w fun e Q=>e= .returned (.tuple #[.int .i64 v.used, .int .i64 0])∧∃cv,aJ w Q i v i {v with used:=v.used+1,d:={v.d with cv:=cv,cs:=v.d.cs++[(4+v.used,a)]}}:=by
 have V:(a.size:Int)=4096:=by omega
 obtain⟨u,g⟩:∃u,v.used=u:=⟨_,rfl⟩;have T:=hid g;have c:=hid (show 0≤u∧u<v.last.geo.blocks-5 from⟨by rw[←g];exact I.u0,by rw[←g];exact hu⟩);have f:=hid I;have S:=hid hb;have R:=hid h;rw[g];clear hu g I hb;have U:=h.jour.cell (i:=0) rfl;go_enter func78,ntmps78;go_wp2_with fail
 refine(ix i v _ h).mono ?_
 rintro e Q ⟨rfl,rfl⟩;go_wp2_with fail
 refine(uP i.sb v.last.geo u _ (by rw[←T.out];exact h.space) f.sup.geo c.out.1 c.out.2).mono ?_
 rintro e w1 ⟨⟨rfl,t⟩,y⟩;have q:=hid (R.take y t);clear y t U h;go_wp2_with fail
 refine(iU i.jb i.db _ v.last u _ q.at'.jour f.sup.geo c.out.1 (by have:=c.out.2;omega)).mono ?_
 rintro e w2 ⟨rfl,s⟩;have r:=hid (q.below s);clear s;go_wp2_with fail
 refine(fZ i.jb (4+u) a _).mono ?_
 rintro e n ⟨⟨J,K,L,rfl,bA,M,N,O⟩,l⟩;have E:=hid (r.below l);have C:=hid bA;have B:=hid (fun x (H:x∈v.d.foot i.db)=>r.at'.disk.lt x H);have A:=hid (And.intro M (And.intro N O));have D:=hid l.size;clear l bA M N O;go_wp2_with fail;obtain⟨w4,j⟩:∃w4,w4=n.alloc (Obj.cells #[.func (.func 187) #[] #[.pointer (some ⟨J,0,none⟩), .pointer (some ⟨K,0,none⟩), .pointer (some ⟨L,0,none⟩)]] 42):=⟨_,rfl⟩;rw[←j];have m:Below n.heap.size n w4:=by rw[j];exact(Below.refl _ _).alloc (Nat.le_refl _) _
 have k:ac w4 n.heap.size [.func (.func 187) #[] #[.pointer (some ⟨J,0,none⟩), .pointer (some ⟨K,0,none⟩), .pointer (some ⟨L,0,none⟩)]] 42:=by rw[j];exact ac.new n _ _
 have o:=hid k;have b:=hid (E.below m);have p:=hid (C.below m);clear k m j
 refine(pL i.jb i.db n.heap.size 1 v.last.geo.blocks.toNat v.used.toNat J K L (4+u) a 42 v.d _ b.at'.disk o.out (b.at'.jour.cell (i:=1) rfl) b.at'.jour.lt p.out (by
  intro x H P;have W:=B.out x P;have Y:=A.out;have Z:=D.out
  rcases H with rfl|rfl|rfl|rfl|rfl
  ·omega
  ·exact(b.at'.jour.ty.notin b.at'.disk.tyIn (by decide)) P
  ·omega
  ·omega
  ·omega) f.calm (by have:=f.few;omega) f.blocks ⟨by have:=c.out.1;omega,by have:=c.out.2;omega⟩ S.out).mono ?_
 rintro e w5 ⟨rfl,X,⟨cv,G⟩,z⟩;subst G;have F:=hid (b.trans (b.at'.disk_to z));clear z;go_wp2_with fail;go_ret2;exact⟨rfl,cv,F.out⟩
theorem Ii:(prog.info? 109).map (fun i=>(i.zero,i.size,i.bytes))=some (some (.agg #[.int .i64 0, .string ⟨#[]⟩]),2,24):=by kernel_rfl
theorem Ij:(prog.info? 9).map (fun i=>(i.zero,i.size,i.bytes))=some (some (.string ⟨#[]⟩),1,16):=by kernel_rfl
theorem uQ (v:Value) (n:Nat) (xs:List ByteArray) (w:World) (h:w.ownsRow 0 9 1 v n ((xs.map .string:List Value))) (hn:n≤4096):
  Calls prog 44 #[v] w fun e w'=>(∃s,e= .returned s∧w'.ownsRow w.heap.size 9 1 s n ((xs.map .string:List Value)))∧Below w.heap.size w w':=by
 obtain⟨C,A,o,q,r⟩:=info_parts Ij
 rcases h.2 with⟨rfl,rfl⟩|⟨g,cap,cur,rfl,_⟩
 ·have t:((xs.map .string:List Value))=([]:List Value):=List.eq_nil_of_length_eq_zero (by simpa using h.1)
  have z:=hid t;clear t h;have m:∀w,(binOp .eql 45 (.slice none 0 0) (.slice none 0 0)).run prog w= .ok (.bool true) w:=fun w=>Lib.run_eql_slice_nil w 45 9 none 0 0 0 0 underlying45
  go_enter func44,ntmps44;go_wp2_with fail;go_ret;exact⟨⟨_,rfl,by rw[z.out];exact World.ownsRow_nil _ _ _ _⟩,Below.refl _ _⟩
 ·have D:=hid h
  have m:∀w,(binOp .eql 45 (.slice (some ⟨g,0,none⟩) n cap) (.slice none 0 0)).run prog w= .ok (.bool false) w:=fun w=>Lib.run_eql_slice_nil w 45 9 (some ⟨g,0,none⟩) n cap 0 0 underlying45
  have d:∀j u,((xs.map .string:List Value))[j]?=some u→(w.alloc (.cells #[] 9)).cell? ((⟨g,0,none⟩:Addr).add j)=some u:=fun j u hu=>(World.ownsRow.alloc h _).cells (g:=g) rfl j u hu
  have i:=hid d;have y:=hid h.1;have c:=hid (show ∀u∈((xs.map .string:List Value)),u.oneCell'=true from by intro u hu;obtain⟨x,_,rfl⟩:=List.mem_map.1 hu;rfl);clear h d;go_enter func44,ntmps44
  go_wp2_with (first
   |(at_builtin;refine wpList_append_own_wide _ rfl _ _ 45 rfl w.heap.size 9 C (.string ⟨#[]⟩) 1 16 underlying45 A o q r rfl (by decide) _ 0 [] rfl (World.ownsRow_lit w #[] 0 (Nat.le_refl _) (by decide) rfl) ⟨g,0,none⟩ n cap ((xs.map .string:List Value)) rfl y.out i.out c.out (by unfold maxLen;omega) (by omega) (by simp) ?_;intro s w8 a b f)
   |fail)
  have l:Below w.heap.size w w8:=dH ((Below.refl _ _).alloc (Nat.le_refl _) _) (World.ownsRow_lit (e:=9) (size:=1) w #[] 0 (Nat.le_refl _) (by decide) rfl) b (Nat.le_refl _) (by simp);rw[Nat.zero_add,List.nil_append]at a;have k:=hid a;obtain⟨p,E,B⟩:=az a;subst B;clear a b f;go_ret;exact⟨⟨_,rfl,k.out⟩,l⟩
theorem uR (v:Value) (n:Nat) (xs:List (Int×ByteArray)) (w:World) (h:w.ownsRow 0 109 2 v n (fC xs)) (hn:n≤4096):
  Calls prog 45 #[v] w fun e w'=>(∃s,e= .returned s∧w'.ownsRow w.heap.size 109 2 s n (fC xs))∧Below w.heap.size w w':=by
 obtain⟨B,z,o,q,r⟩:=info_parts Ii
 rcases h.2 with⟨rfl,rfl⟩|⟨g,cap,cur,rfl,_⟩
 ·have t:(fC xs)=([]:List Value):=List.eq_nil_of_length_eq_zero (by simpa using h.1)
  have y:=hid t;clear t h;have m:∀w,(binOp .eql 46 (.slice none 0 0) (.slice none 0 0)).run prog w= .ok (.bool true) w:=fun w=>Lib.run_eql_slice_nil w 46 109 none 0 0 0 0 underlying46
  go_enter func45,ntmps45;go_wp2_with fail;go_ret;exact⟨⟨_,rfl,by rw[y.out];exact World.ownsRow_nil _ _ _ _⟩,Below.refl _ _⟩
 ·have C:=hid h
  have m:∀w,(binOp .eql 46 (.slice (some ⟨g,0,none⟩) n cap) (.slice none 0 0)).run prog w= .ok (.bool false) w:=fun w=>Lib.run_eql_slice_nil w 46 109 (some ⟨g,0,none⟩) n cap 0 0 underlying46
  have d:∀j u,(fC xs)[j]?=some u→(w.alloc (.cells #[] 109)).cell? ((⟨g,0,none⟩:Addr).add j)=some u:=fun j u hu=>(World.ownsRow.alloc h _).cells (g:=g) rfl j u hu
  have i:=hid d;have x:=hid h.1;have c:=hid (show ∀u∈(fC xs),u.oneCell'=true from by intro u hu;obtain⟨p,_,hp⟩:=List.mem_flatMap.1 hu;simp[putCells]at hp;rcases hp with rfl|rfl<;>rfl);clear h d;go_enter func45,ntmps45
  go_wp2_with (first
   |(at_builtin;refine wpList_append_own_wide _ rfl _ _ 46 rfl w.heap.size 109 B (.agg #[.int .i64 0, .string ⟨#[]⟩]) 2 24 underlying46 z o q r rfl (by decide) _ 0 [] rfl (World.ownsRow_lit w #[] 0 (Nat.le_refl _) (by decide) rfl) ⟨g,0,none⟩ n cap (fC xs) rfl x.out i.out c.out (by unfold maxLen;omega) (by omega) (by simp) ?_;intro s w8 a b f)
   |fail)
  have l:Below w.heap.size w w8:=dH ((Below.refl _ _).alloc (Nat.le_refl _) _) (World.ownsRow_lit (e:=109) (size:=2) w #[] 0 (Nat.le_refl _) (by decide) rfl) b (Nat.le_refl _) (by simp);rw[Nat.zero_add,List.nil_append]at a;have k:=hid a;obtain⟨p,D,A⟩:=az a;subst A;clear a b f;go_ret;exact⟨⟨_,rfl,k.out⟩,l⟩
theorem qN {a b:Value}:(prog.info? 48).map (·.size)=some [a,b].length:=by kernel_rfl
theorem CH (w:World):Sem.run prog (zeroValue 48) w= .ok (.agg ([.slice none 0 0, .slice none 0 0]:List Value).toArray) w:=by kernel_rfl
theorem ru (F:Nat) (d:am) (w:World) (h:aC w F d) (hc:d.cs.length≤4096) (hb:d.bs.length≤1024):
  Calls prog 12 #[.pointer (some ⟨F,0,none⟩)] w fun e w'=>(∃W X,e= .returned (.agg #[W,X])∧w'.ownsRow w.heap.size 9 1 W d.bs.length (d.bs.map .string)∧w'.ownsRow w.heap.size 109 2 X d.cs.length (fC d.cs))∧Below w.heap.size w w':=by
 have Y:=hid h;clear h;go_enter func12,ntmps12
 go_wp2_with (first
  |((with_reducible refine ab 48 _ CH (some 2) ?hgd ?ho ?hd ?_);(case hgd|ho|hd=>rfl);(intro t w1 M N J z1))
  |fail)
 have s:=hid (Y.below (J.mono M))
 refine(jr F d _ s.out).mono ?_
 rintro e w2 ⟨rfl,rfl⟩;obtain⟨w2,I⟩:∃w2,w1=w2:=⟨_,rfl⟩;rw[I]at s N J z1 ⊢;have n:=s;have A:=hid N;have C:=hid (J.mono M);have k:=hid M;have O:=hid (show t∉d.foot F from fun L=>by have:=Y.lt t L;omega);clear N J z1 M I s;go_upto_region 3 with fail;refine wp_region_held_drew (S:=fun Z=>Z.cell? ⟨F,0,none⟩=some d.bv∧Z.cell? ⟨F,1,none⟩=some d.cv) (by kernel_rfl) (⟨n.blk.cell (i:=0) rfl,n.blk.cell (i:=1) rfl⟩) (fun b=> ?_);obtain⟨G,j⟩:∃G,G=w2.drew:=⟨_,rfl⟩;have y:Hid (aC G F d):=hid (by rw[j];exact n.below (Below.refl _ _).drew);have m:Hid (Below w.heap.size w G):=hid (by rw[j];exact C.drew);have f:Hid (ac G t [.slice none 0 0, .slice none 0 0] 48):=hid (by rw[j];exact A.drew);rw[←j];rw[←j]at b;clear j;refine hp 0 ?_;refine hp 1 ?_;refine hp 2 ?_;refine hp 3 ?_;refine hp 4 ?_;refine hp 6 ?_;refine hp 7 ?_;refine hp 8 ?_;refine hp 9 ?_;refine hp 10 ?_;refine wpAnyH_ready (rs:=[5]) (by kernel_rfl) (by simp) ?_;refine AllReadyH.cons rfl (fun K z=> ?_) AllReadyH.nil;go_simp
 refine(uQ d.bv d.bs.length d.bs _ y.rb (by omega)).mono ?_
 rintro e wa ⟨⟨W,U,q⟩,v⟩;obtain⟨p1,c1,rfl⟩:=az q;subst U;have g:=hid (y.below v);have l:=hid (m.trans (v.mono m.size));have c:=hid (f.below v f.lt);have E:=hid (own_base q (show t+1≤G.heap.size from f.lt))
 skip
 clear v q
 (try go_wp2_with fail)
 refine z.out _ _ (⟨g.blk.cell (i:=0) rfl,g.blk.cell (i:=1) rfl⟩) (fun a=> ?_);clear z K b;have b:=a;clear a
 (try go_frame)
 refine wpAnyH_ready (rs:=[11]) (by kernel_rfl) (by simp) ?_;refine AllReadyH.cons rfl (fun K z=> ?_) AllReadyH.nil;go_simp
 refine(uR d.cv d.cs.length d.cs _ g.rc (by omega)).mono ?_
 rintro e wb ⟨⟨X,V,r⟩,p⟩;obtain⟨p2,c2,rfl⟩:=az r;subst V;have o:=hid (g.below p);have D:=hid (l.trans (p.mono l.size));have B:=hid (c.below p c.lt);have R:=hid (own_base r (show t+1≤wa.heap.size from c.lt));have E:=hid (own_below p E.out);clear p r
 (try go_wp2_with fail)
 refine z.out _ _ (⟨o.blk.cell (i:=0) rfl,o.blk.cell (i:=1) rfl⟩) (fun a=> ?_);clear z K b;have b:=a;clear a
 (try go_frame)
 refine hp 12 ?_;refine wpAnyH_ready (rs:=[13]) (by kernel_rfl) (by simp) ?_;refine AllReadyH.cons rfl (fun K z=> ?_) AllReadyH.nil;refine kj 48 (.tmp 2) (.tmp 19) t [.slice none 0 0, .slice none 0 0] [.slice p1 d.bs.length c1, .slice p2 d.cs.length c2] 48 B.out rfl qN (by intro u hu;simp at hu;rcases hu with rfl|rfl<;>rfl) rfl rfl rfl ?_;intro wc Bc oc;have T:Below w.heap.size w wc:=oc.below D.out k.out;have P:=hid (zb E.out oc (Nat.lt_succ_self t));have Q:=hid (zb R.out oc (Nat.lt_succ_self t));have H:=hid (o.turned (oc.turned (S:=[t]) (by simp)) (fun x hx L=>by simp at L;subst L;exact O.out hx));have r0:=Bc.cell (i:=0) rfl;have r1:=Bc.cell (i:=1) rfl;refine z.out _ _ (⟨H.blk.cell (i:=0) rfl,H.blk.cell (i:=1) rfl⟩) (fun a=> ?_);clear z K b;have b:=a;clear a
 (try go_frame)
 refine wpAnyH_done (by kernel_rfl) ?_ _;go_wp2_with fail
 (try simp only[Exit.inBlock,Exit.then]);refine bodyPost_ret (aY rfl _ _ Bc.range rfl underlying48 rfl qN) rfl ⟨⟨_,_,rfl,own_base P.out (Nat.le_succ_of_le k.out),own_base Q.out (Nat.le_succ_of_le k.out)⟩,T⟩
theorem vT (b f c:Nat) (key a:ByteArray) (xv sv d g:Value) (w:World) (h:ac w b [.pointer (some ⟨f,0,none⟩), .string key, .string a,xv,sv, .pointer (some ⟨c,0,none⟩),d,g] 104):
  Calls prog 32 #[.pointer (some ⟨b,0,none⟩)] w fun e w'=>e= .returned (.bool true)∧w=w':=by
 have j:=h.cell (i:=0) rfl;have k:=h.cell (i:=5) rfl;go_enter func32,ntmps32;go_wp2_with fail;go_ret;exact⟨rfl,rfl⟩
theorem AW (f o g l p q r:Nat) (first a:Int) (key c:ByteArray) (xv sv m s:Value) (w:World) (h:ac w f [.pointer (some ⟨o,0,none⟩), .string key, .string c,xv,sv, .pointer (some ⟨g,0,none⟩),m,s] 104) (hb:ac w g (aT l first a p q r) 193):
  Calls prog 11 #[.pointer (some ⟨f,0,none⟩)] w fun e j=>e= .returned (.tuple #[.int .i64 a, .string key, .string c])∧j=w.drew:=by
 go_enter func11,ntmps11;go_wp2_with fail
 refine(vT f o g key c xv sv m s _ h).mono ?_
 rintro e j ⟨rfl,rfl⟩;go_wp2_with fail;refine wp_region_held_drew (S:=fun k=>k.cell? ⟨f,5,none⟩=some (.pointer (some ⟨g,0,none⟩))∧k.cell? ⟨f,1,none⟩=some (.string key)∧k.cell? ⟨f,2,none⟩=some (.string c)) (by kernel_rfl) (⟨h.drew.cell (i:=5) rfl,h.drew.cell (i:=1) rfl,h.drew.cell (i:=2) rfl⟩) (fun b=> ?_);refine hp 0 ?_;refine hp 1 ?_;refine hp 2 ?_;refine hp 3 ?_;refine hp 5 ?_;refine hp 6 ?_;refine hp 7 ?_;refine hp 8 ?_;refine hp 9 ?_;refine hp 10 ?_;refine hp 11 ?_;refine hp 12 ?_;refine wpAnyH_ready (rs:=[4]) (by kernel_rfl) (by simp) ?_;refine AllReadyH.cons rfl (fun K n=> ?_) AllReadyH.nil;go_simp
 refine(aR g l first a p q r _ hb.drew).mono ?_
 rintro e j ⟨rfl,rfl⟩
 (try go_wp2_with fail)
 refine n.out _ _ (⟨h.drew.cell (i:=5) rfl,h.drew.cell (i:=1) rfl,h.drew.cell (i:=2) rfl⟩) (fun d=> ?_);clear n K b;have b:=d;clear d
 (try go_frame)
 refine hp 13 ?_;refine hp 14 ?_;refine hp 15 ?_;refine wpAnyH_done (by kernel_rfl) ?_ _;clear b;go_wp2_with fail
 (try simp only[Exit.inBlock,Exit.then]);refine bodyPost_ret (results_tmp3 rfl _ _ _) rfl ⟨rfl,rfl⟩
theorem rx (n:Nat) (v:Value) (i:Nat) (kb q:ByteArray) (h:2≤n):(bz n v i kb q).shown 1=q:=by
 show(((List.replicate n bT).set i kb).set 1 q).getD 1 ByteArray.empty=q
 rw[List.getD,List.getElem?_set_self (by simp;omega)]
 rfl
theorem nt (n:Nat) (v:Value) (i:Nat) (kb q:ByteArray) (h:i<n) (a:i≠1):(bz n v i kb q).shown (i:Int)=kb:=by
 show(((List.replicate n bT).set i kb).set 1 q).getD i ByteArray.empty=kb
 rw[List.getD,List.getElem?_set_ne (by omega),List.getElem?_set_self (by simp;omega)]
 rfl
theorem fX (n:Nat) (v:Value) (i j:Nat) (kb q:ByteArray) (h:j<n) (a:j≠1) (b:j≠i):(bz n v i kb q).shown (j:Int)=(⟨(List.replicate 4096 0).toArray⟩:ByteArray):=by
 show(((List.replicate n bT).set i kb).set 1 q).getD j ByteArray.empty=bT
 rw[List.getD,List.getElem?_set_ne (by omega),List.getElem?_set_ne (by omega)];simp[h]
theorem yM (n:Nat) (v:Value) (i:Nat) (kb q:ByteArray):(bz n v i kb q).bs.length=n:=by
 show(((List.replicate n bT).set i kb).set 1 q).length=n
 simp
theorem yN {n ep:Nat} {a:Int} (b:cA ⟨(n:Int),a,(ep:Int)⟩):eL (⟨1,((0:Nat):Int),(ep:Int),0,⟨(n:Int),a,(ep:Int)⟩⟩:aF):=by
 have d:=b.b0;have c:=b.f1;simp only at d c;refine⟨b, ?_, ?_, ?_, ?_, ?_, ?_, ?_, ?_⟩<;>(try simp only)<;>omega
theorem Di (d n ep:Nat) (a:Int) (v:Value) (key kb q:ByteArray) (f:cA ⟨(n:Int),a,(ep:Int)⟩) (j:key.size=32) (g:ah kb (ew (ep:Int) key.data.toList)) (l:ah q (cG ⟨1,0,ep,0,⟨(n:Int),a,(ep:Int)⟩⟩)):
  ∀b,aC b d (bz n v (2+ep % 2) kb q)→Calls prog 198 #[.pointer (some ⟨d,0,none⟩)] b fun e w'=>e= .returned (.tuple #[(⟨1,((0:Nat):Int),(ep:Int),0,⟨(n:Int),a,(ep:Int)⟩⟩:aF).v, .string key, .int .i64 0])∧Below b.heap.size b w':=by
 intro b k;have m:8≤n:=by have:=f.b0;simp only at this;omega
 have i:n≤1024:=by have:=f.b1;simp only at this;omega
 have hl:=yM n v (2+ep % 2) kb q;refine C7 d _ ⟨1,((0:Nat):Int),(ep:Int),0,⟨(n:Int),a,(ep:Int)⟩⟩ ep key b k rfl (Nat.zero_le _) (by rw[hl];exact i) (by rw[hl];omega) (yN f) rfl (by rw[hl]) (fX n v _ 0 kb q (by omega) (by omega) (by omega)) ?_ j ?_
 ·rw[rx n v _ kb q (by omega)];exact l
 ·by_cases hp:ep % 2=0
  ·have c:(bz n v (2+ep % 2) kb q).shown 2=kb:=by have:=nt n v (2+ep % 2) kb q (by omega) (by omega);rw[hp]at this ⊢;exact this
   simp only[hp,if_true];rw[hp]at c;rw[c];exact g
  ·have h:ep % 2=1:=by omega
   have c:(bz n v (2+ep % 2) kb q).shown 3=kb:=by have:=nt n v (2+ep % 2) kb q (by omega) (by omega);rw[h]at this ⊢;exact this
   rw[if_neg hp];rw[c];exact g
theorem Dj (n ep:Nat) (v:Value) (kb q:ByteArray) (a:8≤n):(if ep % 2=0 then(bz n v (2+ep % 2) kb q).shown 3 else(bz n v (2+ep % 2) kb q).shown 2)=(⟨(List.replicate 4096 0).toArray⟩:ByteArray):=by
 by_cases hp:ep % 2=0
 ·rw[if_pos hp];exact fX n v _ 3 kb q (by omega) (by omega) (by omega)
 ·rw[if_neg hp];exact fX n v _ 2 kb q (by omega) (by omega) (by omega)
theorem fJ.lower {w:World} {m f u l t k v g j i p q r:Nat} {s:Option Addr} {key b:ByteArray} {e a n c first ep:Int} {d:am} (h:fJ w m u l t k v g j i p q r s key b e a n c first ep d) (hl:f≤m):fJ w f u l t k v g j i p q r s key b e a n c first ep d:=
 ⟨h.vol,h.jour,h.space,h.disk,h.index,h.book,h.bclock,h.clock,h.maps,⟨Nat.le_trans hl h.o.1,h.o.2⟩,⟨Nat.le_trans hl h.om.1,Nat.le_trans hl h.om.2.1,Nat.le_trans hl h.om.2.2⟩⟩
theorem fJ.below {w u:World} {l t k s j v f i g m p q:Nat} {r:Option Addr} {key b:ByteArray} {e a n c first ep:Int} {d:am} (h:fJ w l t k s j v f i g m p q r key b e a n c first ep d) (hb:Below w.heap.size w u):fJ u l t k s j v f i g m p q r key b e a n c first ep d:=
 ⟨h.vol.below hb h.vol.lt,h.jour.below hb h.jour.lt,h.space.below hb h.space.lt,h.disk.below hb,h.index.below hb h.index.lt,h.book.below hb h.book.lt,h.bclock.below hb h.bclock.lt,h.clock.below hb h.clock.lt,h.maps.below hb,h.o,h.om⟩
theorem Dk (d n ep:Nat) (g:Option Addr) (a:Int) (v:Value) (key b kb q:ByteArray) (w:World) (f:cA ⟨(n:Int),a,(ep:Int)⟩) (s:key.size=32) (A:ah kb (ew (ep:Int) key.data.toList)) (B:ah q (cG ⟨1,0,ep,0,⟨(n:Int),a,(ep:Int)⟩⟩))
  (c:b.size=16) (h:aC w d (bz n v (2+ep % 2) kb q)):
  Calls prog 46 #[.pointer (some ⟨d,0,none⟩), .string b, .pointer g] w fun e w'=>(∃j t z C k m l u x y,e= .returned (.tuple #[.pointer (some ⟨j,0,none⟩), .int .i64 0])∧fJ w' w.heap.size j t z d C k m l u x y g key b 1 0 n a ep ep (bz n v (2+ep % 2) kb q))∧Below w.heap.size w w':=by
 have o:8≤n:=by have:=f.b0;simp only at this;omega
 have p:n≤1024:=by have:=f.b1;simp only at this;omega
 have hl:=yM n v (2+ep % 2) kb q;exact AQ d n ep g 1 0 a (ep:Int) key b _ w h c rfl (yN f) rfl (Nat.zero_le _) (by rw[hl];exact p) hl (fun i D r=>fX n v _ i kb q r (by omega) (by omega)) (Dj n ep v kb q o) (Di d n ep a v key kb q f s A B)
def lV (s:UInt8×UInt8×UInt8):UInt8×UInt8×UInt8:=
 (if s.2.2&&&1=1 then s.1^^^s.2.1 else s.1,(s.2.1<<<1)^^^((s.2.1>>>7)*27),s.2.2>>>1)
def oD (a b:UInt8):Nat→UInt8×UInt8×UInt8
 |0=>(0,a,b)
 |k+1=>lV (oD a b k)
def oG (a b:UInt8):UInt8:=(oD a b 8).1
def eF (b n:UInt8):UInt8:=(b<<<n)|||(b>>>(8-n))
def eU:Nat→UInt8×UInt8×List UInt8
 |0=>(1,1,List.replicate 256 0)
 |k+1=>
  let p:=oG (eU k).1 3
  let q:=oG (eU k).2.1 246
  (p,q,(eU k).2.2.set p.toNat (q^^^eF q 1^^^eF q 2^^^eF q 3^^^eF q 4^^^99))
theorem iK:∀k,(eU k).2.2.length=256
 |0=>by show(List.replicate 256 (0:UInt8)).length=256;exact List.length_replicate
 |k+1=>by simp only[eU,List.length_set];exact iK k
def jk:List UInt8:=(eU 255).2.2.set 0 99
theorem dk:jk.length=256:=by unfold jk;rw[List.length_set,iK]
def cP (b:UInt8):UInt8:=jk.getD b.toNat 0
def bS (f:Nat→UInt8) (l:List UInt8) (k:Nat):List UInt8:=(List.range k).map f++l.drop k
theorem im (f:Nat→UInt8) (l:List UInt8) (k:Nat) (h:k≤l.length):(bS f l k).length=l.length:=by simp[bS];omega
theorem jo (f:Nat→UInt8) (l:List UInt8):bS f l 0=l:=by simp[bS]
theorem vU (f:Nat→UInt8) (l:List UInt8) (k j:Nat) (a:k≤j) (h:k≤l.length):(bS f l k)[j]?=l[j]?:=by
 unfold bS;rw[List.getElem?_append_right (by simp;omega)];simp;rw[show k+(j-k)=j by omega]
theorem jU (f:Nat→UInt8) (l:List UInt8) (k:Nat) (h:k<l.length):(bS f l k).set k (f k)=bS f l (k+1):=by
 unfold bS;have e:l.drop k=l[k]::l.drop (k+1):=List.drop_eq_getElem_cons h;rw[e,List.range_succ,List.map_append,List.append_assoc,List.set_append_right _ _ (by simp)];simp only[List.length_map,List.length_range,Nat.sub_self,List.set_cons_zero,List.map_cons,List.map_nil,List.cons_append,List.nil_append]
theorem jV (f:Nat→UInt8) (l:List UInt8) (n:Nat) (h:l.length=n):bS f l n=(List.range n).map f:=by
 unfold bS;rw[List.drop_of_length_le (by omega),List.append_nil]
def se (x w:List UInt8) (r:Nat):List UInt8:=(List.range 16).map fun i=>x.getD i 0^^^w.getD (16*r+i) 0
def mP (x:List UInt8):List UInt8:=(List.range 16).map fun i=>x.getD ((i/4+i % 4) % 4*4+i % 4) 0
def jW (x by4:List UInt8) (i:Nat):Nat→UInt8
 |0=>0
 |k+1=>jW x by4 i k^^^oG (x.getD (i/4*4+k) 0) (by4.getD ((k+4-i % 4) % 4) 0)
def uS (x by4:List UInt8):List UInt8:=(List.range 16).map fun i=>jW x by4 i 4
def mQ (x:List UInt8):List UInt8:=(List.range 16).map fun i=>cP (x.getD i 0)
def mR (w:List UInt8) (i:Nat) (power:UInt8):List UInt8:=
 let t:=(List.range 4).map fun r=>w.getD (4*(i-1)+r) 0
 if i % 4=0 then[cP (t.getD 1 0)^^^power,cP (t.getD 2 0),cP (t.getD 3 0),cP (t.getD 0 0)]else t
def bc (key:List UInt8):Nat→List UInt8×UInt8
 |0=>([],1)
 |i+1=>
  if i<4 then((bc key i).1++(List.range 4).map (fun r=>key.getD (4*i+r) 0),(bc key i).2)
  else((bc key i).1++(List.range 4).map (fun r=>(bc key i).1.getD (4*(i-4)+r) 0^^^(mR (bc key i).1 i (bc key i).2).getD r 0),if i % 4=0 then oG (bc key i).2 2 else(bc key i).2)
theorem dN (key:List UInt8):∀i,(bc key i).1.length=4*i
 |0=>rfl
 |i+1=>by
  unfold bc
  split<;>simp[dN key i]<;>omega
def kt (key:List UInt8):List UInt8:=(bc key 44).1
theorem iy (key:List UInt8):(kt key).length=176:=by unfold kt;rw[dN]
def ga (w x:List UInt8):Nat→List UInt8
 |0=>se x w 0
 |r+1=>se (if r+1<10 then uS (mP (mQ (ga w x r))) [2,3,1,1]else mP (mQ (ga w x r))) w (r+1)
theorem AX (x w:List UInt8) (r:Nat):(se x w r).length=16:=by simp[se]
theorem pM (x:List UInt8):(mP x).length=16:=by simp[mP]
theorem AY (x b:List UInt8):(uS x b).length=16:=by simp[uS]
theorem yO (x:List UInt8):(mQ x).length=16:=by simp[mQ]
theorem mh (w x:List UInt8) (r:Nat):(ga w x r).length=16:=by cases r<;>simp only[ga,AX]
end Go.Proofs.YtadooplpfhdhcaaGreat
