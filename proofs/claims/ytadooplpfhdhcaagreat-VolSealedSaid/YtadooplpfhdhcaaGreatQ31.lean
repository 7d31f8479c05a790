/- A volume is formatted (chapter 26): Mount, Format. Looks at a volume that is none, and at a disk that is none (chapter 26). CloseEpoch (chapter 26) of any epoch, however it ends; where there is no ring. What sealing makes and checking tells, in plain words (chapter 20). -/
import Derived.Test.YtadooplpfhdhcaaGreatQ14
import Derived.Test.YtadooplpfhdhcaaGreatQ13
import Derived.Test.YtadooplpfhdhcaaGreatQ22
import Derived.Test.YtadooplpfhdhcaaGreatQ7
import Derived.Test.YtadooplpfhdhcaaGreatQ30
import Derived.Test.YtadooplpfhdhcaaGreatQ29
import Derived.Test.YtadooplpfhdhcaaGreatQ5
import Derived.Lib.SmallJoins
import Derived.Deep.Fields
import Derived.Test.YtadooplpfhdhcaaGreatQ24
set_option linter.unusedSimpArgs false
set_option linter.unusedVariables false
set_option maxRecDepth 100000
set_option maxHeartbeats 4000000
namespace Go.Proofs.YtadooplpfhdhcaaGreat
open Go Go.RowKit
open Go.Lib (hid)
open Go.Proofs.Tryz
theorem Dv (d n ep:Nat) (b:Int) (v:Value) (key a kb q:ByteArray) (w:World) (s:cD ⟨(n:Int),b,(ep:Int)⟩) (t:key.size=32) (x:aj kb (gB (ep:Int) key.data.toList)) (y:aj q (eC ⟨1,0,ep,0,⟨(n:Int),b,(ep:Int)⟩⟩))
  (c:a.size=16) (h:aH w d (bP n v (2+ep % 2) kb q)):
  Calls prog 13 #[.pointer (some ⟨d,0,none⟩), .string a] w fun e w'=>(∃f k p r g j i l m o,e= .returned (.tuple #[.pointer (some ⟨f,0,none⟩), .int .i64 0])∧fG w' w.heap.size f k p d r g j i l m o none key a 1 0 n b ep ep (bP n v (2+ep % 2) kb q))∧Below w.heap.size w w':=by
 have A:=hid (Ek d n ep none b v key a kb q w s t x y c h);clear h c y x t s;go_enter func13,ntmps13;go_wp2_with fail;refine A.mono ?_;rintro e C ⟨⟨f,k,p,r,g,j,i,l,m,o,rfl,u⟩,hb⟩;have B:=hid u;have z:=hid hb;clear u hb;go_wp2_with fail;go_ret2;exact⟨⟨f,k,p,r,g,j,i,l,m,o,rfl,B.out⟩,z.out⟩
theorem rf (d n ep:Nat) (a:Int) (v:Value) (root:ByteArray) (w:World) (G:cD ⟨(n:Int),a,(ep:Int)⟩) (hr:root.size=32) (h:aH w d (bp n v)):
  Calls prog 8 #[.pointer (some ⟨d,0,none⟩),(⟨(n:Int),a,(ep:Int)⟩:aI).v, .string root] w fun e K=>∃(J jb sb xb bb cb c2 m1 m2 m3:Nat) (key b kb q:ByteArray),e= .returned (.tuple #[.pointer (some ⟨J,0,none⟩), .int .i64 0])∧
   aj b (rJ root.data.toList [100,97,116,97] 16)∧aj key (ig root.data.toList [115,101,97,108] [ep])∧aj kb (gB (ep:Int) key.data.toList)∧aj q (eC ⟨1,0,ep,0,⟨(n:Int),a,(ep:Int)⟩⟩)∧
   bf w K d (bp n v) (bP n v (2+ep % 2) kb q)∧fG K w.heap.size J jb sb d xb bb cb c2 m1 m2 m3 none key b 1 0 n a ep ep (bP n v (2+ep % 2) kb q):=by
 obtain⟨g,B⟩:∃g,Hid (g=(⟨(n:Int),a,(ep:Int)⟩:aI)):=⟨_,rfl⟩;have W:=hid (show g.first=(ep:Int) by rw[B.out]);have S:=hid h;have V:=hid G;have T:=hid (show(ep:Int)≤4294967295 from by have:=G.f1;simp only at this;omega);have HR:=hid hr
 have F:∀(I:World) (key:ByteArray),key.size=32→aH I d (bp n v)→Calls prog 31 #[.pointer (some ⟨d,0,none⟩), .agg g.cells.toArray, .string key] I fun e K=>e= .returned (.int .i64 0)∧∃kb q,aj kb (gB (ep:Int) key.data.toList)∧aj q (eC ⟨1,0,ep,0,(⟨(n:Int),a,(ep:Int)⟩:aI)⟩)∧bf I K d (bp n v) (bP n v (2+ep % 2) kb q):=by
  intro I key hk hx;rw[B.out];exact BX d n ep a v key I hx G hk
 have U:=hid F;rw[←B.out];have X:=hid (show cD g from by rw[B.out];exact G);clear h G hr F;go_enter func8,ntmps8
 go_wp2_with (first
  |((with_reducible refine ae 23 (.tmp 1) g.cells (some 4) ?hgd ?ho ?hd ?hx ?_);(case hgd|ho|hd|hx=>rfl);(intro Z wa l4 B4 e4 z4))
  |fail)
 have c:=hid (e4.mono l4);have u:=hid B4;have bk:=hid l4;have O:=hid (S.below c.out);clear B4 e4 z4 l4
 refine(mT root _).mono ?_
 rintro e wb ⟨E,f⟩;obtain⟨b,rfl,td⟩:=E.yes HR.out;have y:=hid td;have r:=hid (u.below f u.lt);have l:=hid (c.trans (f.mono c.size));have P:=hid (O.below f);clear f td E
 go_wp2_with (first
  |((with_reducible refine al 23 (.tmp 4) Z g.cells 23 _ r.out underlying23 rfl bM ?hgd ?ho ?hx ?_);(case hgd|ho|hx=>rfl))
  |fail)
 refine(fj g _ X.out).mono ?_
 rintro e wc ⟨rfl,j⟩;have s:=hid (r.below j r.lt);have m:=hid (l.trans (j.mono l.size));have Q:=hid (P.below j);have q2:wc.cell? ⟨Z,2,none⟩=some (.int .i64 (ep:Int)):=by rw[←W.out];exact s.cell (i:=2) rfl
 clear j;go_wp2_with fail
 refine(qn root (ep:Int) _).mono ?_
 rintro e wd ⟨E,k⟩;obtain⟨key,rfl,tk⟩:=E.yes ⟨by omega,T.out,HR.out⟩;have z:=hid (show aj key (ig root.data.toList [115,101,97,108] [ep])from tk.cast (by rw[Int.toNat_natCast]));have L:=hid (s.below k s.lt);have o:=hid (m.trans (k.mono m.size));have R:=hid (Q.below k);clear k tk E q2
 go_wp2_with (first
  |((with_reducible refine al 23 (.tmp 4) Z g.cells 23 _ L.out underlying23 rfl bM ?hgd ?ho ?hx ?_);(case hgd|ho|hx=>rfl))
  |fail)
 have x:=hid (show key.size=32 from by rw[z.size,fA]);have N:=hid (show b.size=16 from by rw[y.size,mG])
 refine(U.out _ key x.out R.out).mono ?_
 rintro e we ⟨rfl,kb,q,H,tq,D⟩;have p:=hid H;have A:=hid tq;have t:=hid D;clear H tq D;go_wp2_with fail
 refine(Dv d n ep a v key b kb q _ V.out x.out p.out A.out N.out t.at').mono ?_
 rintro e wf ⟨⟨J,jb,sb,xb,bb,cb,c2,m1,m2,m3,rfl,hv⟩,C⟩;have HV:=hid hv;have M:=hid (bf.ahead o.out (t.below C));have Y:=hid (show w.heap.size≤we.heap.size from Nat.le_trans o.size t.turned.size);clear hv C;go_wp2_with fail;go_ret2;exact⟨J,jb,sb,xb,bb,cb,c2,m1,m2,m3,key,b,kb,q,rfl,y.out,z.out,p.out,(by rw[B.out];exact A.out),M.out,HV.lower Y.out⟩
theorem xN:prog.built 84 []=some bR.zero.cells.toArray:=by kernel_rfl
def nw:List Value:=[.int .i64 0, .int .i64 0, .int .i64 0, .int .i64 0, .int .i64 0, .int .i64 0]
theorem xO (w:World):(zeroValue 38).run prog w= .ok (.agg nw.toArray) w:=by kernel_rfl
theorem xP:(prog.info? 38).map (·.size)=some nw.length:=by kernel_rfl
def cG (e:Int):List Value:=[.int .i64 e, .string ⟨#[]⟩]++nw
theorem eO (w:World):(zeroValue 40).run prog w= .ok (.agg (cG 0).toArray) w:=by kernel_rfl
theorem cP {e:Int}:(prog.info? 40).map (·.size)=some (cG e).length:=by kernel_rfl
theorem jd (e:Int):∀v∈cG e,v.oneCell'=true:=by intro v a;simp[cG,nw]at a;rcases a with rfl|rfl|rfl<;>rfl
theorem fO (e:Int):prog.built 40 [(0, .int .i64 e)]=some (cG e).toArray:=by kernel_rfl
open Go.Maps Go.WideMaps
theorem rh:∀(k:Nat) (l:List ByteArray),(∀x∈l,x.size=32)→∀y∈bu k l,∀x∈y,x.size=32
 |0,l,h=>by intro y hy;simp[bu]at hy;subst hy;exact h
 |k+1,l,h=>by
  intro y hy;unfold bu at hy
  split at hy
  ·simp at hy;subst hy;exact h
  ·rcases List.mem_cons.1 hy with rfl|hy
   ·exact h
   ·exact rh k _ (kR l h) y hy
theorem qj:∀(L:List (List ByteArray)) (s:ByteArray),s.size=32→(∀y∈L,∀x∈y,x.size=32)→(L.foldl fy s).size=32
 |[],s,hs,_=>hs
 |y::L,s,hs,h=>by
  rw[List.foldl_cons];refine qj L _ ?_ (fun z b=>h z (List.mem_cons_of_mem _ b));unfold fy
  split
  ·cases y with
   |nil=>exact hs
   |cons a r=>exact h (a::r) (by simp) a (by simp)
  ·exact hs
theorem AG (l:List ap):(kT l).length=32:=by
 unfold kT rO;refine qj _ _ ?_ ?_
 ·show(dO []).toArray.size=32
  simpa using cR _
 ·refine rh _ _ (fun x a=> ?_)
  unfold bG at a;obtain⟨y,_,rfl⟩:=List.mem_map.1 a
  show(f7 y).toArray.size=32
  simpa using gj y
theorem j8 (ep:Int) (cs:List aw):∀k,k≤cs.length→gk (cr ep (cs.take k))
 |0,_=>gk.none
 |k+1,h=>by
  have hc:cs[k]?=some cs[k]:=List.getElem?_eq_getElem (by omega);rw[j6 hc]
  exact(j8 ep cs k (by omega)).put _ _ (mH _ _ _)
def uX (ep:Int) (cs:List aw):List UInt8:=kT (aC (cr ep cs) 4096)
structure uY (v:ak) (ep:Int) (cs:List aw):Prop where
 len:cs.length=(bN v.vers ep).length
 at':∀(j:Nat) (x:af) (c:aw),(bN v.vers ep)[j]?=some x→cs[j]?=some c→∃k:Nat,x.slot=(k:Int)∧(k:Int)<v.used∧iq v k c
 one:∀(j k:Nat) (a b:aw),cs[j]?=some a→cs[k]?=some b→j<k→a.lba≠b.lba
theorem Jp (i:ar) (v:ak) (cs:List aw) (q:bC v) (m:0≤v.epoch) (n:v.epoch≤4294967295) (j:v.vers.length≤4096) (hc:uY v v.epoch cs):EG i v (cs.length:Int) (uX v.epoch cs) where
 n0:=by omega
 n1:=by have:=nl v.vers v.epoch;have:=hc.len;omega
 len:=AG _
 ex:=by
  have d:cs.take cs.length=cs:=List.take_of_length_le (Nat.le_refl _);refine⟨fun k a=>∃B,dR k a B cs.length v.epoch (j7 v.epoch cs),fun f p=> ?_,fun f a h=> ?_,fun f a h=> ?_⟩
  ·refine(qi i v v.epoch _ cs f p q m n rfl j hc.len hc.at').mono ?_
   rintro e k ⟨⟨a,B,g,c⟩,hb⟩;exact⟨⟨a,g,B,c⟩,hb⟩
  ·obtain⟨B,c⟩:=h
   refine(qh a B cs.length v.epoch _ f c).mono ?_
   rintro e k ⟨g,o⟩;have b:=uO v.epoch cs hc.one cs.length (Nat.le_refl _);rw[d]at b;rw[b]at g;exact⟨g,o⟩
  ·obtain⟨B,c⟩:=h
   have b:=(pI v.epoch cs cs.length (Nat.le_refl _)).1;have l:=j8 v.epoch cs cs.length (Nat.le_refl _);rw[d]at b l;exact yQ a B cs.length v.epoch _ _ f c b l
theorem yX (i:ar) (v:ak) (w:World) (h:am w i v) (B:bC v) (d:4294967295≤v.epoch∨¬v.used<v.last.geo.blocks-4):
  Calls prog 25 #[.pointer (some ⟨i.vb,0,none⟩)] w fun e w'=>e= .returned (.tuple #[bR.zero.v, .int .i64 6])∧Below w.heap.size w w':=by
 have A:=hid h;have t:=hid B;obtain⟨ve,j⟩:∃ve,v.epoch=ve:=⟨_,rfl⟩;rw[j]at d;have m:=hid j;clear h B j
 by_cases D:4294967295≤ve
 ·clear d
  go_enter func25,ntmps25
  go_wp2_with (first
    |((with_reducible refine ab 84 _ jF (some 2) ?hgd ?ho ?hd ?_);(case hgd|ho|hd=>rfl);(intro u o k l n z))
    |fail)
  have c:=hid l;have f:=hid k;have a:=hid (n.mono k);have b:=hid (A.below a.out);clear l n z k
  refine(aQ i v _ b.out).mono ?_
  rintro e w' ⟨rfl,rfl⟩;have x:o.cell? ⟨i.vb,5,none⟩=some (.pointer (some ⟨i.bb,0,none⟩)):=b.vol.cell (i:=5) rfl;go_wp2_with fail
  refine(bg i.bb i.c2 v.first ve i.m1 i.m2 i.m3 _ (by rw[←m.out];exact b.book)).mono ?_
  rintro e w' ⟨rfl,rfl⟩;clear x
  go_wp2_with (first
    |((with_reducible refine av 84 ?parts bR.zero.cells ?hg ?ho ?hf ?_);(case hg|ho=>rfl);(case hf=>exact xN))
    |((with_reducible refine aa 84 (.tmp 2) (.tmp 34) u bR.zero.cells bR.zero.cells 84 c.out rfl dA (bR.cells_one _) ?hgd ?ho ?hx ?hy ?_);(case hgd|ho|hx|hy=>rfl);(intro F p y))
    |fail)
  (try simp only[Exit.inBlock,Exit.then])
  refine bodyPost_ret (aE rfl _ _ p.range rfl underlying84 rfl dA) rfl ⟨rfl,y.below a.out f.out⟩
 ·have s:=hid (show¬v.used<v.last.geo.blocks-4 from d.resolve_left D)
  clear d;go_enter func25,ntmps25
  go_wp2_with (first
    |((with_reducible refine ab 84 _ jF (some 2) ?hgd ?ho ?hd ?_);(case hgd|ho|hd=>rfl);(intro u o k l n z))
    |fail)
  have c:=hid l;have f:=hid k;have a:=hid (n.mono k);have b:=hid (A.below a.out);clear l n z k
  refine(aQ i v _ b.out).mono ?_
  rintro e w' ⟨rfl,rfl⟩;have x:o.cell? ⟨i.vb,5,none⟩=some (.pointer (some ⟨i.bb,0,none⟩)):=b.vol.cell (i:=5) rfl;go_wp2_with fail
  refine(bg i.bb i.c2 v.first ve i.m1 i.m2 i.m3 _ (by rw[←m.out];exact b.book)).mono ?_
  rintro e w' ⟨rfl,rfl⟩;clear x;have C:o.cell? ⟨i.vb,0,none⟩=some (.pointer (some ⟨i.jb,0,none⟩)):=b.vol.cell (i:=0) rfl;have E:o.cell? ⟨i.jb,0,none⟩=some (.pointer (some ⟨i.sb,0,none⟩)):=b.jour.cell (i:=0) rfl;go_wp2_with fail
  refine(kr i.sb v.last.geo v.used _ b.space t.sup.geo).mono ?_
  rintro e G ⟨rfl,g⟩;rw[decide_eq_false (show¬v.used<v.last.geo.blocks-4 by have:=s.out;omega)];have q:=hid (c.below g c.lt);have r:=hid (a.trans (g.mono a.size));clear g C E
  go_wp2_with (first
    |((with_reducible refine av 84 ?parts bR.zero.cells ?hg ?ho ?hf ?_);(case hg|ho=>rfl);(case hf=>exact xN))
    |((with_reducible refine aa 84 (.tmp 2) (.tmp 34) u bR.zero.cells bR.zero.cells 84 q.out rfl dA (bR.cells_one _) ?hgd ?ho ?hx ?hy ?_);(case hgd|ho|hx|hy=>rfl);(intro F p y))
    |fail)
  (try simp only[Exit.inBlock,Exit.then])
  refine bodyPost_ret (aE rfl _ _ p.range rfl underlying84 rfl dA) rfl ⟨rfl,y.below r.out f.out⟩
def fW (root:List UInt8) (f:Nat) (l:List Rec):Nat→List UInt8
 |0=>List.replicate 32 0
 |k+1=>match l[k]? with
  |some r=>iL (km root f (r.epoch.toNat-f)) (fW root f l k) k r
  |none=>[]
theorem oL {root:List UInt8} {f k:Nat} {l:List Rec} {r:Rec} (h:l[k]?=some r):fW root f l (k+1)=iL (km root f (r.epoch.toNat-f)) (fW root f l k) k r:=by
 show(match l[k]? with|some r=>_|none=>_)= _
 rw[h]
theorem Jq {root:List UInt8} {f:Nat} {l:List Rec}:∀{k:Nat},k≤l.length→(fW root f l k).length=32:=by
 intro k b
 cases k with
 |zero=>simp[fW]
 |succ k=>
  obtain⟨r,a⟩:∃r,l[k]?=some r:=⟨_,List.getElem?_eq_getElem (by omega)⟩;rw[oL a,dt]
def closes (l:List Rec):Nat:=(l.filter (fun r=>decide (r.kind=1))).length
theorem sy (r:Rec) (l:List Rec):closes (r::l)=(if r.kind=1 then 1 else 0)+closes l:=by
 unfold closes
 by_cases h:r.kind=1
 ·simp[List.filter_cons,h,Nat.add_comm]
 ·simp[List.filter_cons,h]
theorem G4 (l:List Rec):closes l≤l.length:=List.length_filter_le _ _
structure G5 (first:Int) (l:List Rec):Prop where
 each:∀(k:Nat) (r:Rec),l[k]?=some r→aL r=true∧r.epoch=first+(closes (l.take k):Int)
theorem ir (ep now:Int) (i:Nat) (r:Rec) (l:List Rec):bq ep now i (r::l)=if aL r=true∧r.epoch=ep∧now≤r.time then bq (if r.kind=1 then ep+1 else ep) r.time (i+1) l else(ep,i,16):=rfl
theorem E8 (l:List Rec):∀(ep now:Int) (i:Nat),(bq ep now i l).2.2=0∨(bq ep now i l).2.2=16:=by
 induction l with
 |nil=>intro ep now i;exact .inl rfl
 |cons r l ih=>
  intro ep now i;rw[ir]
  split
  ·exact ih _ _ _
  ·exact .inr rfl
theorem ny (l:List Rec):∀(ep now:Int) (i:Nat),(bq ep now i l).2.2=0→(bq ep now i l).1=ep+(closes l:Int)∧(bq ep now i l).2.1=i+l.length∧G5 ep l:=by
 induction l with
 |nil=>intro ep now i _;exact⟨by simp[bq,closes],rfl,⟨fun k r h=>by simp at h⟩⟩
 |cons r l ih=>
  intro ep now i h;rw[ir]at h ⊢
  by_cases hc:aL r=true∧r.epoch=ep∧now≤r.time
  ·rw[if_pos hc]at h ⊢
   obtain⟨e,f,g⟩:=ih _ _ _ h;refine⟨?_,by rw[f,List.length_cons];omega,⟨?_⟩⟩
   ·rw[e,sy]
    by_cases a:r.kind=1<;>simp[a]<;>omega
   ·intro k x b
    cases k with
    |zero=>
     simp at b;subst b;exact⟨hc.1,by simp[closes,hc.2.1]⟩
    |succ k=>
     obtain⟨c,d⟩:=g.each k x (by simpa using b);refine⟨c, ?_⟩;rw[d,List.take_succ_cons,sy]
     by_cases a:r.kind=1<;>simp[a]<;>omega
  ·rw[if_neg hc]at h
   simp at h
theorem Dw (l:List Rec) (k:Nat):closes (l.take k)≤closes l:=by
 have h:=List.take_append_drop k l
 have:closes l=closes (l.take k)+closes (l.drop k):=by
  conv=>lhs;rw[←h]
  unfold closes;rw[List.filter_append,List.length_append]
 omega
theorem mN (l:List Rec) {j k:Nat} (h:j≤k):closes (l.take j)≤closes (l.take k):=by
 have:=Dw (l.take k) j
 rw[List.take_take,Nat.min_eq_left h]at this;exact this
def je (first:Int) (l:List Rec):Bool:=match l.getLast? with|some r=>decide (4096<r.epoch-first)|none=>false
def oM (root:List UInt8) (f:Nat) (l:List ay):Option Nat:=
 (List.range l.length).find? (fun k=>match l[k]? with|some x=>decide (x.tag.data.toList≠fW root f (l.map ay.r) (k+1))|none=>false)
def gq (root:ByteArray) (first:Int) (l:List ay):Int×Int×Int:=
 if¬root.size=32∨first<0∨4294967295<first then(0,0,2)
 else if(bq first 0 0 (l.map ay.r)).2.2≠0 then((bq first 0 0 (l.map ay.r)).1,((bq first 0 0 (l.map ay.r)).2.1:Nat),(bq first 0 0 (l.map ay.r)).2.2)
 else if je first (l.map ay.r)then(first,0,6)
 else match oM root.data.toList first.toNat l with
  |some k=>(match l[k]? with|some x=>x.r.epoch|none=>0,(k:Int),15)
  |none=>((bq first 0 0 (l.map ay.r)).1,((bq first 0 0 (l.map ay.r)).2.1:Nat),0)
structure AH (root:ByteArray) (first:Int) (l:List Rec):Prop where
 root:root.size=32
 first0:0≤first
 first1:first≤4294967295
 follow:(bq first 0 0 l).2.2=0
 near:je first l=false
theorem AH.epochs {root:ByteArray} {first:Int} {l:List Rec} (h:AH root first l):∀(k:Nat) (r:Rec),l[k]?=some r→aL r=true∧r.epoch=first+(closes (l.take k):Int)∧r.epoch-first≤4096:=by
 intro k r b;obtain⟨_,_,a⟩:=ny l _ _ _ h.follow;obtain⟨e,f⟩:=a.each k r b;refine⟨e,f, ?_⟩;have c:=(List.getElem?_eq_some_iff.1 b).1;obtain⟨z,d⟩:∃z,l[l.length-1]?=some z:=⟨_,List.getElem?_eq_getElem (by omega)⟩;have hl:l.getLast?=some z:=by rw[List.getLast?_eq_getElem?,d]
 have hn:=h.near;unfold je at hn;rw[hl]at hn;simp at hn;have g:=(a.each _ z d).2
 have:=mN l (show k≤l.length-1 by omega)
 omega
theorem sC {root:List UInt8} {f:Nat} {l:List ay}:oM root f l=none↔∀(k:Nat) (x:ay),l[k]?=some x→x.tag.data.toList=fW root f (l.map ay.r) (k+1):=by
 unfold oM;rw[List.find?_range_eq_none]
 constructor
 ·intro h k x a
  have:=h k (List.getElem?_eq_some_iff.1 a).1
  rw[a]at this
  simpa using this
 ·intro h k b
  obtain⟨x,a⟩:∃x,l[k]?=some x:=⟨_,List.getElem?_eq_getElem b⟩;rw[a]
  simpa using h k x a
theorem Dx {root:List UInt8} {f k:Nat} {l:List ay} {x:ay} (a:l[k]?=some x) (hb:x.tag.data.toList≠fW root f (l.map ay.r) (k+1)) (h:∀(j:Nat) (y:ay),j<k→l[j]?=some y→y.tag.data.toList=fW root f (l.map ay.r) (j+1)):oM root f l=some k:=by
 unfold oM;rw[List.find?_range_eq_some];refine⟨by rw[a];simpa using hb,by simpa using(List.getElem?_eq_some_iff.1 a).1,fun j b=> ?_⟩;obtain⟨y,hy⟩:∃x,l[j]?=some x:=⟨_,List.getElem?_eq_getElem (by have:=(List.getElem?_eq_some_iff.1 a).1;omega)⟩;rw[hy]
 simpa using h j y b hy
def zr (now:Int):List Rec→Int
 |[]=>now
 |r::l=>zr r.time l
theorem qk (r:Rec):∀(l:List Rec) (ep now:Int) (i:Nat),(bq ep now i l).2.2=0→aL r=true→r.epoch=(bq ep now i l).1→zr now l≤r.time→
  bq ep now i (l++[r])=(if r.kind=1 then(bq ep now i l).1+1 else(bq ep now i l).1,i+l.length+1,0)∧zr now (l++[r])=r.time
 |[],ep,now,i,h,hr,he,ht=>by
  show bq ep now i [r]= _∧_
  rw[ir,if_pos ⟨hr,he,ht⟩];exact⟨rfl,rfl⟩
 |a::l,ep,now,i,h,hr,he,ht=>by
  rw[ir]at h he ⊢;rw[List.cons_append,ir]
  by_cases hc:aL a=true∧a.epoch=ep∧now≤a.time
  ·rw[if_pos hc]at h he ⊢
   rw[if_pos hc];obtain⟨b,c⟩:=qk r l _ _ _ h hr he ht;refine⟨?_,c⟩;rw[b,List.length_cons]
   congr 2
   omega
  ·rw[if_neg hc]at h
   cases h
theorem tD (root:List UInt8) (f:Nat) (l:List Rec) (r:Rec):∀k,k≤l.length→fW root f (l++[r]) k=fW root f l k
 |0,_=>rfl
 |k+1,h=>by
  obtain⟨x,a⟩:∃x,l[k]?=some x:=⟨_,List.getElem?_eq_getElem (by omega)⟩;rw[oL a,oL (by rw[List.getElem?_append_left (by omega)];exact a),tD root f l r k (by omega)]
structure jL (root:ByteArray) (first epoch now:Int) (key:List UInt8) (l:List ay):Prop where
 size:root.size=32
 f0:0≤first
 e0:first≤epoch
 key:key=km root.data.toList first.toNat (epoch.toNat-first.toNat)
 follow:bq first 0 0 (l.map ay.r)=(epoch,l.length,0)
 now:zr 0 (l.map ay.r)=now
 tags:∀(k:Nat) (x:ay),l[k]?=some x→x.tag.data.toList=fW root.data.toList first.toNat (l.map ay.r) (k+1)
theorem jL.last {root:ByteArray} {first a now:Int} {key:List UInt8} {l:List ay} (h:jL root first a now key l):(cC l).data.toList=fW root.data.toList first.toNat (l.map ay.r) l.length:=by
 unfold cC
 cases hl:l.getLast? with
 |none=>
  have:l=[]:=List.getLast?_eq_none_iff.1 hl
  subst this;simp[fW]
 |some x=>
  rw[List.getLast?_eq_getElem?]at hl;have hp:=(List.getElem?_eq_some_iff.1 hl).1;simp only;rw[h.tags _ x hl]
  congr 1
  omega
theorem jL.snoc {root:ByteArray} {first epoch now:Int} {key:List UInt8} {l:List ay} (h:jL root first epoch now key l) {r:Rec} {t:ByteArray} (q:aL r=true) (m:r.epoch=epoch) (hn:now≤r.time) (s:aj t (iL key (cC l).data.toList (l.length:Int) r)) {b:Int} {a:List UInt8}
  (n:r.kind=1∧b=epoch+1∧a=ig key [110,101,120,116] []∨r.kind≠1∧b=epoch∧a=key):jL root first b r.time a (l++[⟨r,t⟩]):=by
 have f:=h.follow;have p:=h.f0;have o:=h.e0;have c:=qk r (l.map ay.r) first 0 0 (by rw[f]) q (by rw[f];exact m) (by rw[h.now];exact hn);rw[f]at c;have j:(l++[(⟨r,t⟩:ay)]).map ay.r=l.map ay.r++[r]:=by simp
 have e:b=if r.kind=1 then epoch+1 else epoch:=by
  rcases n with⟨h1,h2,_⟩|⟨h1,h2,_⟩
  ·rw[if_pos h1,h2]
  ·rw[if_neg h1,h2]
 exact{
  size:=h.size,f0:=h.f0
  e0:=by rw[e];split<;>omega
  key:=by
   rcases n with⟨h1,h2,h3⟩|⟨h1,h2,h3⟩
   ·rw[h3,h2,h.key,show(epoch+1).toNat-first.toNat=(epoch.toNat-first.toNat)+1 by omega]
    rfl
   ·rw[h3,h2,h.key]
  follow:=by
   rw[j,c.1,e,List.length_map,List.length_append];simp
  now:=by rw[j];exact c.2
  tags:=fun k x d=>by
   rw[j]
   by_cases i:k<l.length
   ·rw[List.getElem?_append_left i]at d
    rw[tD _ _ _ _ _ (by rw[List.length_map];omega)];exact h.tags k x d
   ·have g:k=l.length:=by have:=(List.getElem?_eq_some_iff.1 d).1;simp at this;omega
    subst g;rw[List.getElem?_append_right (Nat.le_refl _)]at d;simp at d;subst d;rw[oL (r:=r) (by rw[List.getElem?_append_right (by simp)];simp),tD _ _ _ _ _ (by simp),←h.last,m,←h.key];exact s}
theorem jL.check {root:ByteArray} {first a now:Int} {key:List UInt8} {l:List ay} (h:jL root first a now key l) (f:first≤4294967295) (hl:l.length≤4096):gq root first l=(a,(l.length:Int),0):=by
 have b:=h.follow;unfold gq;rw[if_neg (by have:=h.size;have:=h.f0;omega),b];simp only[ne_eq,not_true_eq_false,if_false]
 have hb:je first (l.map ay.r)=false:=by
  unfold je
  cases hg:(l.map ay.r).getLast? with
  |none=>rfl
  |some r=>
   simp only[decide_eq_false_iff_not,Int.not_lt];obtain⟨_,_,c⟩:=ny (l.map ay.r) first 0 0 (by rw[b]);rw[List.getLast?_eq_getElem?]at hg;have d:=(c.each _ r hg).2;have e:=G4 ((l.map ay.r).take ((l.map ay.r).length-1));rw[List.length_take,List.length_map]at e;rw[List.length_map]at d;omega
 rw[hb,sC.2 h.tags];simp
theorem pK {α:Type}:∀(l:List α) (y:α),l.getLast?=some y→l.dropLast++[y]=l
 |[],y,h=>by cases h
 |[a],y,h=>by simp at h;subst h;rfl
 |a::b::r,y,h=>by
  have c:(b::r).getLast?=some y:=by rw[←h];simp[List.getLast?_cons_cons]
  show a::((b::r).dropLast++[y])= _
  rw[pK (b::r) y c]
theorem pL {c:List af} (s:∀(i j:Nat) (a d:af),c[i]?=some a→c[j]?=some d→i<j→gI a d) (ep:Int):∀k,k≤c.length→(bN (c.take k) ep).Pairwise (fun a b=>a.lba<b.lba)∧∀x∈bN (c.take k) ep,x.epoch=ep∧∃t,t<k∧c[t]?=some x
 |0,_=>⟨List.Pairwise.nil,fun x o=>by simp[bN]at o⟩
 |k+1,h=>by
  obtain⟨n,p⟩:=pL s ep k (by omega);have o:c[k]?=some c[k]:=List.getElem?_eq_getElem (by omega);rw[nW o]
  generalize bN (c.take k) ep=out at n p
  unfold dm
  have r:∀a∈out,a.lba≤c[k].lba:=fun a f=>by
   obtain⟨_,t,z,q⟩:=p a f
   have:=s t k _ _ q o z
   unfold gI at this;omega
  have l:∀x∈out,x.epoch=ep∧∃t,t<k+1∧c[t]?=some x:=fun x o=>by
   obtain⟨u,t,B,v⟩:=p x o;exact⟨u,t,by omega,v⟩
  split
  ·rename_i w
   have g:c[k].epoch=ep∧∃t,t<k+1∧c[t]?=some c[k]:=⟨w,k,by omega,o⟩
   split
   ·rename_i y hy
    have m:out.dropLast++[y]=out:=pK out y hy
    split
    ·rename_i hl
     refine⟨?_,fun x e=> ?_⟩
     ·rw[List.pairwise_append]
      refine⟨n.sublist (List.dropLast_sublist _),by simp,fun a f b hb=> ?_⟩;simp at hb;subst hb;rw[←m,List.pairwise_append]at n
      have:=n.2.2 a f y (by simp)
      omega
     ·rcases List.mem_append.1 e with e|e
      ·exact l x (by rw[←m];exact List.mem_append_left _ e)
      ·simp at e;subst e;exact g
    ·rename_i hl
     refine⟨?_,fun x e=> ?_⟩
     ·rw[List.pairwise_append]
      refine⟨n,by simp,fun a f b hb=> ?_⟩;simp at hb;subst hb;have A:=r y (by rw[←m];simp);rw[←m]at f
      rcases List.mem_append.1 f with f|f
      ·rw[←m,List.pairwise_append]at n
       have:=n.2.2 a f y (by simp)
       omega
      ·simp at f;subst f;omega
     ·rcases List.mem_append.1 e with e|e
      ·exact l x e
      ·simp at e;subst e;exact g
   ·exact⟨by simp,fun x e=>by simp at e;subst e;exact g⟩
  ·exact⟨n,l⟩
def cellAt (log:List LE) (x:af):aw:=match log[x.slot.toNat]? with|some (.cell _ c)=>c|_=>⟨0,0,0,false,⟨#[]⟩⟩
def cellsOf (log:List LE) (vers:List af) (ep:Int):List aw:=(bN vers ep).map (cellAt log)
theorem lZ {log:List LE} {key:ByteArray} {b:ax} {a:List af} (h:cY log key b a) {ep:Int} {x:af} (j:x∈bN a ep):∃(k:Nat) (y:AV) (c:aw),x=⟨y.lba,y.epoch,(k:Int)⟩∧log[k]?=some (LE.cell y c)∧y.epoch=ep∧c.epoch=ep:=by
 have d:=pL h.sort ep a.length (Nat.le_refl _);rw[List.take_of_length_le (Nat.le_refl _)]at d;obtain⟨g,t,_,i⟩:=d.2 x j;obtain⟨k,y,c,e,f⟩:=h.vin t x i;have hy:y.epoch=ep:=by rw[←g,e]
 exact⟨k,y,c,e,f,hy,(h.fit k y c f).epoch.trans hy⟩
theorem lB {log:List LE} {k:Nat} {y z:AV} {c:aw} (h:log[k]?=some (LE.cell z c)):cellAt log ⟨y.lba,y.epoch,(k:Int)⟩=c:=by
 unfold cellAt;simp only[Int.toNat_natCast,h]
theorem sD {log d:List LE} {key:ByteArray} {b:ax} {a:List af} (h:cY log key b a) (ep:Int) (hc:∀(k:Nat) (y:AV) (c:aw),log[k]?=some (LE.cell y c)→c.epoch=ep→d[k]?=some (LE.cell y c)):cellsOf d a ep=cellsOf log a ep:=by
 unfold cellsOf;refine List.map_congr_left fun x g=> ?_
 obtain⟨k,y,c,rfl,e,_,f⟩:=lZ h g;rw[lB e,lB (hc k y c e f)]
theorem kW {log:List LE} {key:ByteArray} {b:ax} {a:List af} (h:cY log key b a) (ep:Int) (e:LE):cellsOf (log++[e]) a ep=cellsOf log a ep:=
 sD h ep fun k y c d _=>by rw[List.getElem?_append_left (List.getElem?_eq_some_iff.1 d).1];exact d
theorem AI {log:List LE} {key:ByteArray} {b:ax} {a:List af} (h:cY log key b a) {ep t:Int} (e:ep≠t):cellsOf (log.map (eM t)) a ep=cellsOf log a ep:=
 sD h ep fun k y c d f=>by
  rw[List.getElem?_map,d]
  show some (eM t (.cell y c))= _
  unfold eM;simp only;rw[if_neg (by omega)]
theorem uZ (a b:List af) (ep:Int):bN (a++b) ep=b.foldl (dm ep) (bN a ep):=List.foldl_append
theorem u3 {l:List af} {v:af} {ep:Int} (h:v.epoch≠ep):bN (fV l v) ep=bN l ep:=by
 unfold fV;rw[uZ,List.foldl_cons,show dm ep (bN (l.take (jj v l)) ep) v=bN (l.take (jj v l)) ep from if_neg h,←uZ,List.take_append_drop]
structure cL (log:List LE) (vers:List af) (b:ax) (epoch:Int) (l:List ay):Prop where
 lt:∀(k:Nat) (x:ay),l[k]?=some x→x.r.kind=1→x.r.epoch<epoch
 count:∀(k:Nat) (x:ay),l[k]?=some x→x.r.kind=1→x.r.count=((cellsOf log vers x.r.epoch).length:Int)
 root:∀(k:Nat) (x:ay),l[k]?=some x→x.r.kind=1→b.gone x.r.epoch=false→x.r.root.data.toList=uX x.r.epoch (cellsOf log vers x.r.epoch)
theorem cellsOf_length (log:List LE) (a:List af) (ep:Int):(cellsOf log a ep).length=(bN a ep).length:=by unfold cellsOf;simp
theorem cL.to {log f:List LE} {e c:List af} {b b':ax} {a d:Int} {l:List ay} (h:cL log e b a l) (m:a≤d) (o:∀ep,ep<a→bN c ep=bN e ep) (n:∀ep,b'.gone ep=false→b.gone ep=false)
  (hc:∀ep,ep<a→b'.gone ep=false→cellsOf f c ep=cellsOf log e ep):cL f c b' d l where
 lt:=fun k x i g=>Int.lt_of_lt_of_le (h.lt k x i g) m
 count:=fun k x i g=>by
  rw[h.count k x i g,cellsOf_length,cellsOf_length,o _ (h.lt k x i g)]
 root:=fun k x i g j=>by
  rw[h.root k x i g (n _ j),hc _ (h.lt k x i g) j]
theorem cL.write {log:List LE} {key:ByteArray} {c:List af} {b:ax} {a:Int} {l:List ay} (h:cL log c b a l) (f:cY log key b c) {y:af} (hy:y.epoch=a) (e:LE):cL (log++[e]) (fV c y) b a l:=
 h.to (Int.le_refl _) (fun ep d=>u3 (by omega)) (fun ep g=>g) (fun ep d _=>by
   show(bN (fV c y) ep).map _= _
   rw[u3 (by omega)];exact kW f ep e)
theorem cL.record {log:List LE} {key:ByteArray} {c:List af} {b b':ax} {a:Int} {l:List ay} (h:cL log c b a l) (d:cY log key b c) (hb:b'.gone=b.gone) (e:LE):cL (log++[e]) c b' a l:=
 h.to (Int.le_refl _) (fun _ _=>rfl) (fun ep f=>by rw[←hb];exact f) (fun ep _ _=>kW d ep e)
theorem cL.purge {log:List LE} {key:ByteArray} {c:List af} {b b':ax} {a:Int} {l:List ay} (h:cL log c b a l) (f:cY log key b c) {t:Int} (hb:∀e,b'.gone e=if e=t then true else b.gone e):cL (log.map (eM t)) c b' a l:=
 h.to (Int.le_refl _) (fun _ _=>rfl) (fun ep d=>by rw[hb]at d;split at d;cases d;exact d) (fun ep _ d=>AI f (fun g=>by rw[hb,if_pos g]at d;cases d))
theorem cL.other {log:List LE} {d:List af} {b:ax} {a:Int} {l:List ay} (h:cL log d b a l) {x:ay} (i:x.r.kind≠1):cL log d b a (l++[x]):=by
 have e:∀(k:Nat) (y:ay),(l++[x])[k]?=some y→y.r.kind=1→l[k]?=some y:=fun k y hy c=>by
  by_cases f:k<l.length
  ·rw[List.getElem?_append_left f]at hy;exact hy
  ·rw[List.getElem?_append_right (by omega)]at hy
   have g:=List.mem_of_getElem? hy;simp at g;subst g;exact absurd c i
 exact⟨fun k y hy c=>h.lt k y (e k y hy c) c,fun k y hy c=>h.count k y (e k y hy c) c,fun k y hy c=>h.root k y (e k y hy c) c⟩
theorem cL.close {log:List LE} {c:List af} {b:ax} {a:Int} {l:List ay} (h:cL log c b a l) {x:ay} (g:x.r.epoch=a) (hc:x.r.count=((cellsOf log c a).length:Int)) (m:x.r.root.data.toList=uX a (cellsOf log c a)):cL log c b (a+1) (l++[x]):=by
 have d:∀(k:Nat) (y:ay),(l++[x])[k]?=some y→l[k]?=some y∨y=x:=fun k y hy=>by
  by_cases f:k<l.length
  ·rw[List.getElem?_append_left f]at hy;exact .inl hy
  ·rw[List.getElem?_append_right (by omega)]at hy
   have i:=List.mem_of_getElem? hy;simp at i;exact .inr i
 refine⟨fun k y hy e=> ?_,fun k y hy e=> ?_,fun k y hy e j=> ?_⟩
 ·rcases d k y hy with h1|rfl
  ·have:=h.lt k y h1 e;omega
  ·omega
 ·rcases d k y hy with h1|rfl
  ·exact h.count k y h1 e
  ·rw[g];exact hc
 ·rcases d k y hy with h1|rfl
  ·exact h.root k y h1 e j
  ·rw[g];exact m
def ju (v:ak) (b:ax):List Value:=[.int .i64 v.epoch, .int .i64 v.clock, .int .i64 (cj v.last.geo v.used), .int .i64 (v.sealed.length:Int), .int .i64 ((df v.vers).1:Int), .int .i64 (b.holds.length:Int)]
theorem ww (v:ak) (b:ax):∀x∈ju v b,x.oneCell'=true:=by intro x a;simp[ju]at a;rcases a with rfl|rfl|rfl|rfl|rfl|rfl<;>rfl
theorem G6 (a b c d e f:Int):prog.built 38 [(0, .int .i64 a),(1, .int .i64 b),(2, .int .i64 c),(3, .int .i64 d),(4, .int .i64 e),(5, .int .i64 f)]=some (#[.int .i64 a, .int .i64 b, .int .i64 c, .int .i64 d, .int .i64 e, .int .i64 f]:Array Value):=by kernel_rfl
theorem E9 (i:ar) (v:ak) (b:ax) (w:World) (h:am w i v) (X:bC v) (C:bK v.U v.L v.G b) (F:v.vers.length≤4096) (Q:v.sealed.length≤1048576):
  Calls prog 34 #[.pointer (some ⟨i.vb,0,none⟩)] w fun e w'=>e= .returned (.tuple #[.agg (ju v b).toArray, .int .i64 0])∧Below w.heap.size w w':=by
 have V:=hid h;have O:=hid X;have N:=hid C;have P:=hid F;obtain⟨ps,cs,E⟩:=aD h.sealed;have d:=hid E;have Z:(v.sealed.length:Int)≤1048576:=by omega
 clear h X C F E Q;go_enter func34,ntmps34
 go_wp2_with (first
  |((with_reducible refine ab 38 _ xO (some 2) ?hgd ?ho ?hd ?_);(case hgd|ho|hd=>rfl);(intro Y S R T W z1))
  |fail)
 have s:=hid T;have M:=hid R;have q:=hid (W.mono R);have p:=hid (V.below q.out);clear T W z1 R
 refine(aQ i v _ p.out).mono ?_
 rintro e w' ⟨rfl,rfl⟩;go_upto_region 3 with fail;refine hb (fun r=>r.cell? ⟨i.vb,5,none⟩=some (.pointer (some ⟨i.bb,0,none⟩))∧r.cell? ⟨i.vb,6,none⟩=some (.pointer (some ⟨i.cb,0,none⟩))∧r.cell? ⟨i.vb,0,none⟩=some (.pointer (some ⟨i.jb,0,none⟩))∧r.cell? ⟨i.vb,3,none⟩=some (.pointer (some ⟨i.xb,0,none⟩))∧r.cell? ⟨i.vb,4,none⟩=some (.slice ps v.sealed.length cs)) (⟨p.vol.drew.cell (i:=5) rfl,p.vol.drew.cell (i:=6) rfl,p.vol.drew.cell (i:=0) rfl,p.vol.drew.cell (i:=3) rfl,(by rw[←d.out];exact p.vol.drew.cell (i:=4) rfl)⟩) fun a=> ?_
 obtain⟨wd,m⟩:∃r,r=S.drew:=⟨_,rfl⟩;have j:Below S.heap.size S wd:=by rw[m];exact(Below.refl _ _).drew
 rw[←m];rw[←m]at a;clear m;have f:=hid (p.below j);have t:=hid (s.below j s.lt);have x:=hid (q.trans (j.mono q.size));clear j;refine hp 0 ?_;refine hp 1 ?_;refine hp 2 ?_;refine hp 3 ?_;refine hp 5 ?_;refine hp 6 ?_;refine hp 7 ?_;refine hp 8 ?_;refine hp 10 ?_;refine hp 11 ?_;refine hp 12 ?_;refine hp 13 ?_;refine hp 15 ?_;refine hp 16 ?_;refine hp 17 ?_;refine hp 18 ?_;refine hp 20 ?_;refine hp 21 ?_;refine hp 22 ?_;refine hp 23 ?_;refine hp 25 ?_;refine hp 26 ?_;refine hp 27 ?_;refine hp 28 ?_;refine hp 19 ?_;refine hc 4 fun K c=> ?_
 go_simp
 refine(bg i.bb i.c2 v.first v.epoch i.m1 i.m2 i.m3 _ f.book).mono ?_
 rintro e w' ⟨rfl,rfl⟩
 (try go_wp2_with fail)
 refine c.out _ _ (⟨f.vol.cell (i:=5) rfl,f.vol.cell (i:=6) rfl,f.vol.cell (i:=0) rfl,f.vol.cell (i:=3) rfl,(by rw[←d.out];exact f.vol.cell (i:=4) rfl)⟩) fun _=> ?_
 clear c K a;rename_i a
 (try go_frame)
 refine hc 9 fun K c=> ?_
 go_simp
 refine(ek i.cb v.clock _ f.clock).mono ?_
 rintro e w' ⟨rfl,rfl⟩
 (try go_wp2_with fail)
 refine c.out _ _ (⟨f.vol.cell (i:=5) rfl,f.vol.cell (i:=6) rfl,f.vol.cell (i:=0) rfl,f.vol.cell (i:=3) rfl,(by rw[←d.out];exact f.vol.cell (i:=4) rfl)⟩) fun _=> ?_
 clear c K a;rename_i a
 (try go_frame)
 refine hc 14 fun K c=> ?_
 go_simp
 refine(jO i v _ f.out O.out).mono ?_
 rintro e we ⟨rfl,k⟩;have o:=hid (f.below k);have u:=hid (t.below k t.lt);have y:=hid (x.trans (k.mono x.size));clear k
 (try go_wp2_with fail)
 refine c.out _ _ (⟨o.vol.cell (i:=5) rfl,o.vol.cell (i:=6) rfl,o.vol.cell (i:=0) rfl,o.vol.cell (i:=3) rfl,(by rw[←d.out];exact o.vol.cell (i:=4) rfl)⟩) fun _=> ?_
 clear c K a;rename_i a
 (try go_frame)
 refine hc 24 fun K c=> ?_
 go_simp
 refine(Da i.xb _ i.xv v.vers _ o.index o.vers rfl P.out).mono ?_
 rintro e wf ⟨rfl,l⟩;have g:=hid (o.below l);have H:=hid (u.below l u.lt);have J:=hid (y.trans (l.mono y.size));clear l
 (try go_wp2_with fail)
 refine c.out _ _ (⟨g.vol.cell (i:=5) rfl,g.vol.cell (i:=6) rfl,g.vol.cell (i:=0) rfl,g.vol.cell (i:=3) rfl,(by rw[←d.out];exact g.vol.cell (i:=4) rfl)⟩) fun _=> ?_
 clear c K a;rename_i a
 (try go_frame)
 refine hc 29 fun K c=> ?_
 go_simp
 refine(EL i.bb i.c2 i.m1 i.m2 i.m3 v.n v.first v.epoch v.U v.L v.G b _ g.book g.maps N.out).mono ?_
 rintro e w' ⟨rfl,rfl⟩
 (try go_wp2_with fail)
 refine c.out _ _ (⟨g.vol.cell (i:=5) rfl,g.vol.cell (i:=6) rfl,g.vol.cell (i:=0) rfl,g.vol.cell (i:=3) rfl,(by rw[←d.out];exact g.vol.cell (i:=4) rfl)⟩) fun _=> ?_
 clear c K a;rename_i a
 (try go_frame)
 refine hu 30 38 (ju v b) (parts:=#[(0, .tmp 12),(1, .tmp 17),(2, .tmp 22),(3, .tmp 27),(4, .tmp 32),(5, .tmp 37)]) (by refine Eq.trans ?_ (G6 v.epoch v.clock (cj v.last.geo v.used) (v.sealed.length:Int) ((df v.vers).1:Int) (b.holds.length:Int));kernel_rfl) ?_;refine hc 31 fun K c=> ?_
 refine iS 38 (.tmp 2) (.tmp 38) Y nw (ju v b) 38 H.out rfl xP (ww v b) rfl rfl rfl ?_;intro wg B D;have I:=hid B;have z:=hid (D.below J.out M.out);have A:=hid (V.below z.out);clear B D;refine c.out _ _ (⟨A.vol.cell (i:=5) rfl,A.vol.cell (i:=6) rfl,A.vol.cell (i:=0) rfl,A.vol.cell (i:=3) rfl,(by rw[←d.out];exact A.vol.cell (i:=4) rfl)⟩) fun _=> ?_
 clear c K a;rename_i a
 (try go_frame)
 refine hp 32 ?_;refine hd ?_;clear a;go_wp2_with fail
 (try simp only[Exit.inBlock,Exit.then])
 refine bodyPost_ret (aE rfl _ _ I.range rfl underlying38 rfl xP) rfl ⟨rfl,z.out⟩
open Go.ChangeShapes Go.WideShapes Go.Deep
structure aP where
 kind:Int
 lba:Int
 epoch:Int
 time:Int
 data:ByteArray
 name:ByteArray
 kp:Option Addr
 kn:Nat
 kc:Nat
def aP.cells (c:aP):List Value:=[.int .i64 c.kind, .int .i64 c.lba, .int .i64 c.epoch, .int .i64 c.time, .string c.data, .string c.name, .slice c.kp c.kn c.kc]
def aP.v (c:aP):Value:= .agg c.cells.toArray
section
variable {H:Type} {enc:TypeId×Value→H} {w:World} {base:Nat} {spare:Nat→Bool} {held:Bool}
theorem Jr {t e:TypeId} {b:Nat} {cs:List Value} {x:DataW H×List MemPlace} (d:prog.underlying t=some (.slice e)) (h:DataW.trod enc prog w base spare held b t cs=some x):∃p n c,cs=[.slice p n c]∧n≤9223372036854775807:=by
 rcases DataW.trod_slice d h with h0|⟨a,len,cap,elems,rest,n,_,rfl,rfl,hb,hl,hm,_⟩
 ·exact⟨none,0,0,by first|exact h0.1|exact h0,by omega⟩
 ·exact⟨some a,len,cap,rfl,by have:maxLen=9223372036854775807:=rfl;omega⟩
theorem G7 {d:Nat} {cs:List Value} {x:DataW H×List MemPlace} (h:DataW.trod enc prog w base spare held d 36 cs=some x):∃c:aP,cs=c.cells∧c.kn≤9223372036854775807:=by
 obtain⟨xs,n,_,_,hl,e,b⟩:=DataW.trod_struct underlying36 h;have hc:prog.cellsOf 36=7:=by kernel_rfl
 have g:prog.cellsOf 34=1:=by kernel_rfl
 have a:prog.cellsOf 3=1:=by kernel_rfl
 have f:prog.cellsOf 9=1:=by kernel_rfl
 rw[hc]at hl
 match xs,e with
 |[y0,y1,y2,y3,y4,y5,y6],_=>
  have i:DataW.trod enc prog w base spare held n 3 (List.take (prog.cellsOf 3) (List.drop 0 cs))=some y0:=b 0 _ rfl;rw[a]at i;have j:DataW.trod enc prog w base spare held n 3 (List.take (prog.cellsOf 3) (List.drop 1 cs))=some y1:=b 1 _ rfl;rw[a]at j;have k:DataW.trod enc prog w base spare held n 3 (List.take (prog.cellsOf 3) (List.drop 2 cs))=some y2:=b 2 _ rfl;rw[a]at k;have l:DataW.trod enc prog w base spare held n 3 (List.take (prog.cellsOf 3) (List.drop 3 cs))=some y3:=b 3 _ rfl;rw[a]at l;have m:DataW.trod enc prog w base spare held n 9 (List.take (prog.cellsOf 9) (List.drop 4 cs))=some y4:=b 4 _ rfl;rw[f]at m;have o:DataW.trod enc prog w base spare held n 9 (List.take (prog.cellsOf 9) (List.drop 5 cs))=some y5:=b 5 _ rfl;rw[f]at o;have p:DataW.trod enc prog w base spare held n 34 (List.take (prog.cellsOf 34) (List.drop 6 cs))=some y6:=b 6 _ rfl;rw[g]at p;obtain⟨C,r,_,L⟩:=DataW.trod_int underlying3 i;obtain⟨D,s,_,M⟩:=DataW.trod_int underlying3 j;obtain⟨E,t,_,N⟩:=DataW.trod_int underlying3 k;obtain⟨F,u,_,O⟩:=DataW.trod_int underlying3 l;obtain⟨G,v,_,P⟩:=DataW.trod_string underlying9 m;obtain⟨I,y,_,Q⟩:=DataW.trod_string underlying9 o;obtain⟨K,J,q,z,B⟩:=Jr underlying34 p
  have A:cs=(cs.drop 0).take 1++((cs.drop 1).take 1++((cs.drop 2).take 1++((cs.drop 3).take 1++((cs.drop 4).take 1++((cs.drop 5).take 1++((cs.drop 6).take 1)))))):=by
   match cs,hl with
   |[_,_,_,_,_,_,_],_=>rfl
  rw[A,r,s,t,u,v,y,z];exact⟨⟨C,D,E,F,G,I,K,J,q⟩,rfl,B⟩
end
theorem Fa {v:ak} (h:oH v) {a:Int} (k:0≤a) (l:a≤4096) {s t:ByteArray} (i:s.size=32) (j:t.size=32):
  gZ (v.sealed++[⟨aM v a s,t⟩]) (v.sealed.length:Int)=(⟨(v.sealed.length:Int),aM v a s,cC v.sealed,t⟩,0):=by
 have g:fJ (v.sealed++[⟨aM v a s,t⟩]) v.sealed.length ⟨aM v a s,t⟩=⟨(v.sealed.length:Int),aM v a s,cC v.sealed,t⟩:=by
  unfold fJ;rw[List.take_left]
 have f:js (⟨(v.sealed.length:Int),aM v a s,cC v.sealed,t⟩:bR)=true:=by
  have b:=lx h k l i;have c:=h.last;have m:=h.sealed;have d:(v.sealed.length:Int)≤4294967295:=by omega
  have e:(aM v a s).kind=1:=rfl;simp[js,b,c,d,e,j]
 have hc:iz (v.sealed++[⟨aM v a s,t⟩]) (v.sealed.length:Int)=some ⟨aM v a s,t⟩:=by
  simp[iz,aM]
 unfold gZ;rw[hc]
 dsimp only
 rw[Int.toNat_natCast,g,if_pos f]
def D7 (v:ak) (cnt:Int) (s t bl nk kb q nb:ByteArray):ak:={v with used:=v.used+1,last:=ft v v.clock,d:=fK v bl kb q nb,key:=nk,sealed:=v.sealed++[⟨aM v cnt s,t⟩],epoch:=v.epoch+1,now:=v.clock}
end Go.Proofs.YtadooplpfhdhcaaGreat
