/- The cell of a cell's bytes (chapter 12): Take. An index (chapter 14): all versions, those of an epoch; the newest one of a place. An index (chapter 14): a place's newest version, where there is one. A book (chapter 23): Gone, and a closure is applied; a clock is let show a time (chapter 22). -/
import Derived.Test.YtadooplpfhdhcaaGreatQ18
import Derived.Test.YtadooplpfhdhcaaGreatQ11
import Derived.Test.YtadooplpfhdhcaaGreatQ7
import Derived.Test.YtadooplpfhdhcaaGreatQ14
import Derived.Test.YtadooplpfhdhcaaGreatQ8
import Derived.Test.YtadooplpfhdhcaaGreatQ12
import Derived.StillTailTactics
import Derived.OrdersHeld
import Derived.StringKeys
set_option linter.unusedSimpArgs false
set_option linter.unusedVariables false
set_option maxRecDepth 100000
set_option maxHeartbeats 4000000
namespace Go.Proofs.YtadooplpfhdhcaaGreat
open Go Go.RowKit
open Go.Lib (hid)
open Go.Proofs.Tryz
def cC:List Value:=ak.cells ⟨0,0,0,false,⟨#[]⟩⟩
theorem zeroCell (w:World):Sem.run prog (zeroValue 134) w= .ok (.agg cC.toArray) w:=by kernel_rfl
theorem bZ (c:ak):∀v∈c.cells,v.oneCell'=true:=by intro v a;simp[ak.cells]at a;rcases a with rfl|rfl|rfl|rfl|rfl<;>rfl
theorem KD (l:List UInt8) (h:l.length=13):∃k e s b:Nat,k<256∧e<4294967296∧s<4294967296∧b<4294967296∧l=da [1,4,4,4] [(k:Int),(e:Int),(s:Int),(b:Int)]:=by
 have r:(256:Nat)^1=256:=rfl;have a:(256:Nat)^4=4294967296:=rfl;have m:(l.take 1).length=1:=by simp;omega
 have n:((l.drop 1).take 4).length=4:=by simp;omega
 have o:((l.drop 5).take 4).length=4:=by simp;omega
 have p:(l.drop 9).length=4:=by simp;omega
 have c:=iR (l.take 1);have d:=iR ((l.drop 1).take 4);have f:=iR ((l.drop 5).take 4);have g:=iR (l.drop 9);rw[m,r]at c;rw[n,a]at d;rw[o,a]at f;rw[p,a]at g;refine⟨_,_,_,_,c,d,f,g, ?_⟩;rw[show da [1,4,4,4] [((bq (l.take 1):Nat):Int),((bq ((l.drop 1).take 4):Nat):Int),((bq ((l.drop 5).take 4):Nat):Int),((bq (l.drop 9):Nat):Int)]=beBytes 1 (bq (l.take 1))++(beBytes 4 (bq ((l.drop 1).take 4))++(beBytes 4 (bq ((l.drop 5).take 4))++beBytes 4 (bq (l.drop 9))))from by simp[da]];rw[iu 1 _ m,iu 4 _ n,iu 4 _ o,iu 4 _ p];have q:=(List.take_append_drop 1 l).symm;have i:=(List.take_append_drop 4 (l.drop 1)).symm;have j:=(List.take_append_drop 4 (l.drop 5)).symm;rw[List.drop_drop]at i j
 conv=>lhs;rw[q,i,j]
theorem xE {l:List UInt8} {k e s b:Nat} (d:k<256) (c:e<4294967296) (f:s<4294967296) (hb:b<4294967296) (h:l=da [1,4,4,4] [(k:Int),(e:Int),(s:Int),(b:Int)]):bD [1,4,4,4] l=some [(k:Int),(e:Int),(s:Int),(b:Int)]:=by
 have g:(256:Nat)^1=256:=rfl;have i:(256:Nat)^4=4294967296:=rfl;have a:l=beBytes 1 k++(beBytes 4 e++(beBytes 4 s++(beBytes 4 b++[]))):=by rw[h];simp[da]
 rw[a,bP (by decide) (by decide) (by omega) (by omega),bP (by decide) (by decide) (by omega) (by omega),bP (by decide) (by decide) (by omega) (by omega),bP (by decide) (by decide) (by omega) (by omega),kJ]
 rfl
theorem JI {l a b:List UInt8} (h:eZ l=some (a,b)):a.length≤l.length:=by
 unfold eZ at h
 split at h
 ·cases h
 ·simp only[Option.some.injEq,Prod.mk.injEq]at h
  rw[←h.1];simp;omega
def kX (block:ByteArray) (e:Ending):Prop:=
 (∃c,bh c∧ah block (cellL c)∧e= .returned (.tuple #[.agg c.cells.toArray, .int .i64 0]))∨((∀c,bh c→¬ah block (cellL c))∧e= .returned (.tuple #[.agg cC.toArray, .int .i64 3]))
theorem Ft {a:ByteArray} {c:ak} {k e s b:Nat} (hc:bh c) (f:ah a (cellL c)) (hu:bD [1,4,4,4] (a.extract 0 13).data.toList=some [(k:Int),(e:Int),(s:Int),(b:Int)]):c.epoch=e∧c.slot=s∧c.lba=b∧((k:Int)==2)=c.gone∧∃z,eZ (a.extract 13 4096).data.toList=some (c.cipher.data.toList,z):=by
 rw[show(a.extract 0 13).data.toList= _ from Dp f,ny hc]at hu;have d:=Option.some.inj hu;simp only[dp,List.cons.injEq,and_true]at d;obtain⟨d,g,h,i⟩:=d;obtain⟨z,j⟩:=Dq f hc.n;refine⟨g,h,i, ?_,z, ?_⟩
 ·rw[←d];unfold bF;cases c.gone<;>rfl
 ·rw[show(a.extract 13 4096).data.toList= _ from j,jQ (by rw[show c.cipher.data.toList.length=c.cipher.size from rfl];have:=hc.n;omega)]
theorem jD (d:ByteArray) (w:World) (Y:d.size=4096):
  Calls prog 139 #[.string d] w fun e w'=>kX d e∧Below w.heap.size w w':=by
 have c5:(d.size:Int)=4096:=by omega
 have u:(d.extract 0 13).data.toList.length=13:=by
  have:(d.extract 0 13).size=13:=by simp[ByteArray.size_extract,Y]
  exact this
 obtain⟨kn,en,sn,bn,k1,e1,s1,b1,bw⟩:=KD _ u;have HU:=hid (xE k1 e1 s1 b1 bw);have I:=hid u;have c2:=hid (show en≤4294967295∧sn≤4294967295 from⟨by omega,by omega⟩);obtain⟨kd,T⟩:∃kd:Int,kd=(kn:Int):=⟨_,rfl⟩;obtain⟨ep,R⟩:∃ep:Int,ep=(en:Int):=⟨_,rfl⟩;obtain⟨l,X⟩:∃l:Int,l=(sn:Int):=⟨_,rfl⟩;obtain⟨lb,V⟩:∃lb:Int,lb=(bn:Int):=⟨_,rfl⟩;have cc:=hid (fun(g:Bool) (t:ByteArray) (v:t.size≤4096)=>show qR ⟨ep,l,lb,g,t⟩from⟨by show 0≤ep;omega,by show ep≤4294967295;omega,by show 0≤l;omega,by show l≤4294967295;omega,by show 0≤lb;omega,v⟩);obtain⟨gn,U⟩:∃gn,(kd==2)=gn:=⟨_,rfl⟩
 have r:=hid (fun(c:ak) (hc:bh c) (v:ah d (cellL c))=>show c.epoch=ep∧c.slot=l∧c.lba=lb∧gn=c.gone∧∃z,eZ (d.extract 13 4096).data.toList=some (c.cipher.data.toList,z)from by
  have:=Ft hc v HU.out
  rw[←T,←R,←X,←V,U]at this;exact this)
 rw[←T,←R,←X,←V]at HU;have ce:=hid U;clear bw u k1 e1 s1 b1 T R X V U;have cg:=hid Y;clear Y;go_enter func139,ntmps139
 go_wp2_with (first
  |((with_reducible refine ab 134 _ zeroCell (some 2) ?hgd ?ho ?hd ?_);(case hgd|ho|hd=>rfl);(intro b2 w1 l1 B1 e1 z1))
  |fail)
 have cb:=hid B1;have cl:=hid (e1.mono l1);have HL:=hid l1;clear B1 e1 z1 l1;refine wp_region_held_drew (S:=fun wx=>True) (by kernel_rfl) (trivial) (fun j=> ?_);obtain⟨wd,s⟩:∃wd,wd=w1.drew:=⟨_,rfl⟩;have a0:Hid (ac wd b2 cC 134):=hid (by rw[s];exact cb.drew);have be:Hid (Below w.heap.size w wd):=hid (by rw[s];exact cl.drew);rw[←s]
 (try rw[←s]at j)
 clear s;refine hp 1 ?_;refine hp 2 ?_;refine hp 3 ?_;refine wpAnyH_ready (rs:=[0]) (by kernel_rfl) (by simp) ?_;refine AllReadyH.cons rfl (fun K hK=> ?_) AllReadyH.nil;go_simp
 refine(jX _).mono ?_
 rintro e w2 ⟨⟨gw,rfl,b3,_⟩,P⟩;have aq:=hid (a0.below P a0.lt);have bb:=hid (be.trans (P.mono be.size));have ck:=hid b3;clear P b3
 (try go_wp2_with fail)
 refine hK.out _ _ (trivial) (fun f=> ?_);clear hK K j;have j:=f;clear f
 (try go_frame)
 refine wpAnyH_ready (rs:=[4]) (by kernel_rfl) (by simp) ?_;refine AllReadyH.cons rfl (fun K hK=> ?_) AllReadyH.nil;go_simp
 refine(kH _ [1,4,4,4] (d.extract 0 13) _ (bC.blk (xs:=[1,4,4,4]) ck.out rfl 4) (by intro k a h;match k,h with|0,h=>simp at h;omega|1,h=>simp at h;omega|2,h=>simp at h;omega|3,h=>simp at h;omega|k+4,h=>simp at h) (by first|(rw[show(d.extract 0 13).size=13 from I.out];rfl)|(have:=I.out;simpa using this.symm)) (by decide) (by decide)).mono ?_
 rintro e w3 ⟨he,Q⟩;obtain⟨vo,rfl,L⟩:=sV he HU.out;obtain⟨C,c4,zz,rfl,bv,co,J⟩:=ba L (by simp);have aA:=hid (aq.below Q aq.lt);have bd:=hid (bb.trans (Q.mono bb.size));have H:=hid J;clear Q L bv co J he
 (try go_wp2_with fail)
 refine hK.out _ _ (trivial) (fun f=> ?_);clear hK K j;have j:=f;clear f
 (try go_frame)
 refine hp 5 ?_;refine hp 6 ?_;refine hp 7 ?_;refine hp 8 ?_;refine hp 9 ?_;refine wpAnyH_done (by kernel_rfl) ?_ _;clear j;go_wp2_with fail;rw[cg.out]
 refine(mN (d.extract 13 4096) _).mono ?_
 rintro e n ⟨he,D⟩;have N:=hid (aA.below D aA.lt);have O:=hid (bd.trans (D.mono bd.size));have q:=hid (H.below D H.lt);clear D
 rcases he with⟨a,b,s1,s2,h1,rfl,tx,ty⟩|⟨h1,rfl⟩
 case inr=>
  have p:=hid (show ∀c,bh c→¬ah d (cellL c)from fun c hc v=>by
   obtain⟨_,_,_,_,z,o⟩:=r.out c hc v;rw[h1]at o;cases o)
  clear h1
  go_wp2_with (first
   |((with_reducible refine aa 134 (.tmp 2) (.tmp 39) b2 cC (ak.cells ⟨0,0,0,false,⟨#[]⟩⟩) 134 N.out rfl aX (bZ _) ?hgd ?ho ?hx ?hy ?_);(case hgd|ho|hx|hy=>rfl);(intro w9 M Z))
   |fail)
  (try simp only[Exit.inBlock,Exit.then]);refine bodyPost_ret (aU rfl _ _ M.range rfl underlying134 rfl aX) rfl ⟨.inr ⟨p.out,rfl⟩,Z.below O.out HL.out⟩
 have a5:=hid h1;have a8:=hid tx
 have b0:s1.size≤4096:=by
  have e1:=JI h1;have e2:(d.extract 13 4096).data.toList.length=(d.extract 13 4096).size:=rfl;have e3:(d.extract 13 4096).size≤4096:=by simp[ByteArray.size_extract];omega
  rw[tx.size];omega
 have cf:=hid b0;clear h1 tx ty b0;have i0:n.cell? ⟨C,0,none⟩=some (.int .i64 kd):=q.cell (i:=0) rfl;have i1:n.cell? ⟨C,1,none⟩=some (.int .i64 ep):=q.cell (i:=1) rfl;have i2:n.cell? ⟨C,2,none⟩=some (.int .i64 l):=q.cell (i:=2) rfl;have i3:n.cell? ⟨C,3,none⟩=some (.int .i64 lb):=q.cell (i:=3) rfl;have cm:C<n.heap.size:=q.lt;have bx:=ce.out;go_wp2_with fail;go_region_held3 (fun w'=>w'.cell? ⟨C,0,none⟩=some (.int .i64 kd)∧w'.cell? ⟨C,1,none⟩=some (.int .i64 ep)∧w'.cell? ⟨C,2,none⟩=some (.int .i64 l)∧w'.cell? ⟨C,3,none⟩=some (.int .i64 lb)) (go_keep) (fail)
 all_goals
  have B6:ac (n.alloc (Obj.cells #[.int .i64 ep, .int .i64 l, .int .i64 lb, .bool gn, .string s1] 134)).drew n.heap.size (ak.cells ⟨ep,l,lb,gn,s1⟩) 134:=ac.new n (ak.cells ⟨ep,l,lb,gn,s1⟩) 134;have E:Below n.heap.size n (n.alloc (Obj.cells #[.int .i64 ep, .int .i64 l, .int .i64 lb, .bool gn, .string s1] 134)).drew:=((Below.refl _ _).alloc (Nat.le_refl _) _).drew;obtain⟨w6,b4⟩:∃W,(n.alloc (Obj.cells #[.int .i64 ep, .int .i64 l, .int .i64 lb, .bool gn, .string s1] 134)).drew=W:=⟨_,rfl⟩;rw[b4]at B6 E ⊢;have x:=hid (N.below E N.lt);have A:=hid (O.trans (E.mono O.size));have H6:=hid B6;clear b4 B6 E i0 i1 i2 i3 cm bx;go_wp2_with ((with_reducible refine aj 134 (.tmp 10) n.heap.size (ak.cells ⟨ep,l,lb,gn,s1⟩) 134 _ H6.out underlying134 rfl aX ?hgd ?ho ?hx ?_);(case hgd|ho|hx=>rfl))
  by_cases F:bh ⟨ep,l,lb,gn,s1⟩
  ·have a7:=hid F
   clear F
   refine(mn ⟨ep,l,lb,gn,s1⟩ _ a7.out).mono ?_
   rintro e w7 ⟨⟨z,rfl,tz⟩,m⟩;have y:=hid (x.below m x.lt);have B:=hid (A.trans (m.mono A.size));have H7:=hid (H6.below m H6.lt);have a9:=hid tz;clear m tz
   by_cases G:z=d
   ·subst G
    go_wp2_with (first
     |((with_reducible refine aj 134 (.tmp 10) n.heap.size (ak.cells ⟨ep,l,lb,gn,s1⟩) 134 _ H7.out underlying134 rfl aX ?hgd ?ho ?hx ?_);(case hgd|ho|hx=>rfl))
     |((with_reducible refine aa 134 (.tmp 2) (.tmp 68) b2 cC (ak.cells ⟨ep,l,lb,gn,s1⟩) 134 y.out rfl aX (bZ _) ?hgd ?ho ?hx ?hy ?_);(case hgd|ho|hx|hy=>rfl);(intro w9 M Z))
     |fail)
    (try simp only[Exit.inBlock,Exit.then]);refine bodyPost_ret (aU rfl _ _ M.range rfl underlying134 rfl aX) rfl ⟨.inl ⟨_,a7.out,a9.out,rfl⟩,Z.below B.out HL.out⟩
   ·have p:=hid (show ∀c,bh c→¬ah d (cellL c)from fun c hc v=>by
     obtain⟨a1,a2,a3,a4,z',o⟩:=r.out c hc v;rw[a5.out]at o;simp only[Option.some.injEq,Prod.mk.injEq]at o;obtain⟨x1,x2,x3,x4,x5⟩:=c;simp only at a1 a2 a3 a4 o;obtain rfl:x5=s1:=(ah.self x5).eq (show ah s1 x5.data.toList from by rw[←o.1];exact a8.out);subst a1 a2 a3 a4;exact G (a9.eq v))
    have c6:(z.toList==d.toList)=false:=by
     rw[beq_eq_false_iff_ne];intro e
     apply G
     have e2:z.data.toList=d.data.toList:=by rw[←Lib.toList_data,←Lib.toList_data,e]
     exact(show ah z d.data.toList from e2).eq (ah.self d)
    clear G
    go_wp2_with (first
     |((with_reducible refine aa 134 (.tmp 2) (.tmp 67) b2 cC (ak.cells ⟨0,0,0,false,⟨#[]⟩⟩) 134 y.out rfl aX (bZ _) ?hgd ?ho ?hx ?hy ?_);(case hgd|ho|hx|hy=>rfl);(intro w9 M Z))
     |fail)
    (try simp only[Exit.inBlock,Exit.then]);refine bodyPost_ret (aU rfl _ _ M.range rfl underlying134 rfl aX) rfl ⟨.inr ⟨p.out,rfl⟩,Z.below B.out HL.out⟩
  ·have a6:=hid F
   clear F
   refine(uZ ⟨ep,l,lb,gn,s1⟩ _ (cc.out gn s1 cf.out) a6.out).mono ?_
   rintro e w7 ⟨rfl,m⟩;have y:=hid (x.below m x.lt);have B:=hid (A.trans (m.mono A.size))
   have p:=hid (show ∀c,bh c→¬ah d (cellL c)from fun c hc v=>by
    obtain⟨a1,a2,a3,a4,z',o⟩:=r.out c hc v;rw[a5.out]at o;simp only[Option.some.injEq,Prod.mk.injEq]at o;have hc2:=hc;obtain⟨x1,x2,x3,x4,x5⟩:=c;simp only at a1 a2 a3 a4 o;obtain rfl:x5=s1:=(ah.self x5).eq (show ah s1 x5.data.toList from by rw[←o.1];exact a8.out);subst a1 a2 a3 a4;exact a6.out hc2)
   clear m
   go_wp2_with (first
    |((with_reducible refine aa 134 (.tmp 2) (.tmp 67) b2 cC (ak.cells ⟨0,0,0,false,⟨#[]⟩⟩) 134 y.out rfl aX (bZ _) ?hgd ?ho ?hx ?hy ?_);(case hgd|ho|hx|hy=>rfl);(intro w9 M Z))
    |fail)
   (try simp only[Exit.inBlock,Exit.then]);refine bodyPost_ret (aU rfl _ _ M.range rfl underlying134 rfl aX) rfl ⟨.inr ⟨p.out,rfl⟩,Z.below B.out HL.out⟩
theorem ll (c:ak) (a:ByteArray) (w:World) (f:ah a (cellL c)) (hc:bh c):
  Calls prog 139 #[.string a] w fun e w'=>e= .returned (.tuple #[.agg c.cells.toArray, .int .i64 0])∧Below w.heap.size w w':=by
 refine(jD a w (by rw[f.size,fm c hc.n])).mono ?_
 rintro e w' ⟨⟨d,hd,g,rfl⟩|⟨b,_⟩,hb⟩
 ·obtain rfl:c=d:=vX hc hd ((show a.data.toList=cellL c from f).symm.trans g)
  exact⟨rfl,hb⟩
 ·exact absurd f (b c hc)
theorem nT (c:ak) (a:ByteArray) (w:World) (b:ah a (cellL c)) (hc:bh c) (d:c.gone=false):
  Calls prog 139 #[.string a] w fun e w'=>e= .returned (.tuple #[.agg c.cells.toArray, .int .i64 0])∧Below w.heap.size w w':=ll c a w b hc
theorem u3 (v:Value) (n:Nat) (xs:List ag) (w:World) (h:w.ownsRow 0 130 3 v n (ar xs)) (hn:n≤4096):
  Calls prog 255 #[v] w fun e w'=>(∃s,e= .returned s∧w'.ownsRow w.heap.size 130 3 s n (ar xs))∧Below w.heap.size w w':=by
 obtain⟨B,z,o,q,r⟩:=info_parts mp
 rcases h.2 with⟨rfl,rfl⟩|⟨g,cap,cur,rfl,_⟩
 ·have t:(ar xs)=([]:List Value):=List.eq_nil_of_length_eq_zero (by simpa using h.1)
  have y:=hid t;clear t h;have m:∀w,(binOp .eql 209 (.slice none 0 0) (.slice none 0 0)).run prog w= .ok (.bool true) w:=fun w=>Lib.run_eql_slice_nil w 209 130 none 0 0 0 0 underlying209
  go_enter func255,ntmps255;go_wp2_with fail;go_ret;exact⟨⟨_,rfl,by rw[y.out];exact World.ownsRow_nil _ _ _ _⟩,Below.refl _ _⟩
 ·have C:=hid h
  have m:∀w,(binOp .eql 209 (.slice (some ⟨g,0,none⟩) n cap) (.slice none 0 0)).run prog w= .ok (.bool false) w:=fun w=>Lib.run_eql_slice_nil w 209 130 (some ⟨g,0,none⟩) n cap 0 0 underlying209
  have d:∀j u,(ar xs)[j]?=some u→(w.alloc (.cells #[] 130)).cell? ((⟨g,0,none⟩:Addr).add j)=some u:=fun j u hu=>(World.ownsRow.alloc h _).cells (g:=g) rfl j u hu
  have i:=hid d;have x:=hid h.1;have c:=hid (show ∀u∈(ar xs),u.oneCell'=true from pI xs);clear h d;go_enter func255,ntmps255
  go_wp2_with (first
   |(at_builtin;refine wpList_append_own_wide _ rfl _ _ 209 rfl w.heap.size 130 B (.agg (ag.cells ⟨0,0,0⟩).toArray) 3 24 underlying209 z o q r rfl (by decide) _ 0 [] rfl (World.ownsRow_lit w #[] 0 (Nat.le_refl _) (by decide) rfl) ⟨g,0,none⟩ n cap (ar xs) rfl x.out i.out c.out (by unfold maxLen;omega) (by omega) (by simp) ?_;intro s w8 a b f)
   |fail)
  have l:Below w.heap.size w w8:=dH ((Below.refl _ _).alloc (Nat.le_refl _) _) (World.ownsRow_lit (e:=130) (size:=3) w #[] 0 (Nat.le_refl _) (by decide) rfl) b (Nat.le_refl _) (by simp);rw[Nat.zero_add,List.nil_append]at a;have k:=hid a;obtain⟨p,D,A⟩:=az a;subst A;clear a b f;go_ret;exact⟨⟨_,rfl,k.out⟩,l⟩
theorem pT (f n:Nat) (xv:Value) (l:List ag) (w:World) (h:ac w f [.bool true,xv] 238) (g:w.ownsRow 0 130 3 xv n (ar l)) (hn:n≤4096):
  Calls prog 195 #[.pointer (some ⟨f,0,none⟩)] w fun e w'=>(∃a,e= .returned a∧w'.ownsRow w.heap.size 130 3 a n (ar l))∧Below w.heap.size w w':=by
 obtain⟨p,c,b⟩:=az g;subst b;have j:=h.cell (i:=1) rfl;go_enter func195,ntmps195;go_wp2_with fail
 refine(jp f _ _ h).mono ?_
 rintro e w' ⟨rfl,rfl⟩;go_wp2_with fail
 refine(u3 _ n l _ g hn).mono ?_
 rintro e k ⟨⟨a,rfl,d⟩,hb⟩;go_wp2_with fail;go_ret;exact⟨⟨a,rfl,d⟩,hb⟩
def dL (lba epoch:Int) (x:ag):Prop:=x.lba<lba∨(x.lba=lba∧x.epoch≤epoch)
instance (lba epoch:Int) (x:ag):Decidable (dL lba epoch x):=by unfold dL;exact inferInstance
theorem tB (x:ag) (k lba a:Int) (q r:Nat) (w:World) (f:ac w q [.int .i64 lba] 3) (g:ac w r [.int .i64 a] 3):
  Calls prog 248 #[.agg x.cells.toArray, .int .i64 k, .pointer (some ⟨q,0,none⟩), .pointer (some ⟨r,0,none⟩)] w fun e w'=>e= .returned (.int .i64 (if dL lba a x then -1 else 1))∧Below w.heap.size w w':=by
 by_cases s:x.lba<lba
 ·rw[if_pos (show dL lba a x from .inl s)]
  go_enter func248,ntmps248
  go_wp2_with (first
   |((with_reducible refine ae 130 (.tmp 0) x.cells (some 4) ?hgd ?ho ?hd ?hx ?_);(case hgd|ho|hd|hx=>rfl);(intro h o c d b p;have m:=d.cell (i:=0) rfl;have n:=d.cell (i:=1) rfl;have j:=(f.below (b.mono c) f.lt).cell (i:=0) rfl;have l:=(g.below (b.mono c) g.lt).cell (i:=0) rfl))
   |fail)
  go_ret;exact⟨rfl,b.mono c⟩
 ·by_cases t:x.lba=lba
  ·by_cases u:x.epoch≤a
   ·rw[if_pos (show dL lba a x from .inr ⟨t,u⟩)]
    go_enter func248,ntmps248
    go_wp2_with (first
     |((with_reducible refine ae 130 (.tmp 0) x.cells (some 4) ?hgd ?ho ?hd ?hx ?_);(case hgd|ho|hd|hx=>rfl);(intro h o c d b p;have m:=d.cell (i:=0) rfl;have n:=d.cell (i:=1) rfl;have j:=(f.below (b.mono c) f.lt).cell (i:=0) rfl;have l:=(g.below (b.mono c) g.lt).cell (i:=0) rfl))
     |fail)
    go_ret;exact⟨rfl,b.mono c⟩
   ·rw[if_neg (show¬dL lba a x from by unfold dL;omega)]
    go_enter func248,ntmps248
    go_wp2_with (first
     |((with_reducible refine ae 130 (.tmp 0) x.cells (some 4) ?hgd ?ho ?hd ?hx ?_);(case hgd|ho|hd|hx=>rfl);(intro h o c d b p;have m:=d.cell (i:=0) rfl;have n:=d.cell (i:=1) rfl;have j:=(f.below (b.mono c) f.lt).cell (i:=0) rfl;have l:=(g.below (b.mono c) g.lt).cell (i:=0) rfl))
     |fail)
    go_ret;exact⟨rfl,b.mono c⟩
  ·rw[if_neg (show¬dL lba a x from by unfold dL;omega)]
   go_enter func248,ntmps248
   go_wp2_with (first
    |((with_reducible refine ae 130 (.tmp 0) x.cells (some 4) ?hgd ?ho ?hd ?hx ?_);(case hgd|ho|hd|hx=>rfl);(intro h o c d b p;have m:=d.cell (i:=0) rfl;have n:=d.cell (i:=1) rfl;have j:=(f.below (b.mono c) f.lt).cell (i:=0) rfl;have l:=(g.below (b.mono c) g.lt).cell (i:=0) rfl))
    |fail)
   go_ret;exact⟨rfl,b.mono c⟩
structure fp (l:List ag) (lba epoch:Int) (i:Nat):Prop where
 le:i≤l.length
 ahead:∀(t:Nat) (x:ag),l[t]?=some x→t<i→dL lba epoch x
 behind:∀(t:Nat) (x:ag),l[t]?=some x→i≤t→¬dL lba epoch x
theorem fp.uniq {l:List ag} {lba a:Int} {i j:Nat} (h:fp l lba a i) (k:fp l lba a j):i=j:=by
 rcases Nat.lt_trichotomy i j with h1|h1|h1
 ·have b:i<l.length:=by have:=k.le;omega
  exact absurd (k.ahead i _ (List.getElem?_eq_getElem b) h1) (h.behind i _ (List.getElem?_eq_getElem b) (Nat.le_refl _))
 ·exact h1
 ·have c:j<l.length:=by have:=h.le;omega
  exact absurd (h.ahead j _ (List.getElem?_eq_getElem c) h1) (k.behind j _ (List.getElem?_eq_getElem c) (Nat.le_refl _))
theorem ln (g E n C D:Nat) (lba c:Int) (l:List ag) (z:List Value) (w:World) (h:ac w g (ar l++z) 130) (hn:l.length=n) (hb:n≤1048576) (N:ac w C [.int .i64 lba] 3) (O:ac w D [.int .i64 c] 3)
  (p:∀(i j:Nat) (a b:ag),l[i]?=some a→l[j]?=some b→i≤j→dL lba c b→dL lba c a):
  Calls prog 247 #[.slice (some ⟨g,0,none⟩) n E, .int .i64 0, .func (.func 248) #[] #[.pointer (some ⟨C,0,none⟩), .pointer (some ⟨D,0,none⟩)]] w fun e w'=>(∃i:Nat,e= .returned (.tuple #[.int .i64 (i:Int), .bool false])∧fp l lba c i)∧Below w.heap.size w w':=by
 have v:=hid h;have s:=hid N;have u:=hid O;have A:=hid hn;have M:=hid p;clear h hn p N O;go_enter func247,ntmps247;go_wp2_with fail;go_loopw [9,10] (fun Z I wr=>∃d hi:Nat,Z= .int .i64 d∧I= .int .i64 hi∧d≤hi∧hi≤n∧Hid ((∀(t:Nat) (x:ag),l[t]?=some x→t<d→dL lba c x)∧(∀(t:Nat) (x:ag),l[t]?=some x→hi≤t→¬dL lba c x))∧Hid (Below w.heap.size w wr)) (fun a b _=>(intOf b).toNat-(intOf a).toNat)
 case atStart=>exact⟨0,n,rfl,rfl,Nat.zero_le _,Nat.le_refl _,hid ⟨fun t x _ B=>absurd B (Nat.not_lt_zero _),fun t x hx B=>by have:=(List.getElem?_eq_some_iff.1 hx).1;have:=A.out;omega⟩,hid (Below.refl _ _)⟩
 case round=>
  obtain⟨d,hi,rfl,rfl,R,F,q,f⟩:=hrel;have L:=hid (v.below f.out v.lt);have J:=hid (s.below f.out s.lt);have K:=hid (u.below f.out u.lt)
  by_cases T:d<hi
  ·obtain⟨m,U⟩:∃m:Nat,(d+hi)/2=m:=⟨_,rfl⟩
   have Y:((d:Int)+(hi:Int))/2=(m:Int):=by omega
   have G:d≤m:=by omega
   have W:m<hi:=by omega
   have X:(m:Int)<(n:Int):=by omega
   have V:(0:Int)≤(m:Int):=by omega
   obtain⟨x,hx⟩:∃x,l[m]?=some x:=⟨_,List.getElem?_eq_getElem (by have:=A.out;omega)⟩;have r:=hid (ed L.out hx);clear U
   go_wp2_with (first
    |((with_reducible refine ao 130 (.tmp 27) g (m*3) x.cells _ (some 28) r.out underlying130 rfl aM ?hg ?ho ?hds ?hx ?_);(case ho|hg|hds|hx=>rfl))
    |fail)
   refine(tB x 0 lba c C D _ J.out K.out).mono ?_
   rintro e wa ⟨rfl,o⟩;have k:=hid (f.trans (o.mono f.size));clear o
   by_cases hc:dL lba c x
   ·rw[if_pos hc]
    go_wp2_with fail;go_roundw
    case rel=>exact⟨m+1,hi,by go_num,rfl,by omega,F,hid ⟨fun t y hy B=>M.out t m y x hy hx (by omega) hc,q.out.2⟩,k⟩
    case measure=>simp[intOf];omega
   ·rw[if_neg hc]
    go_wp2_with fail;go_roundw
    case rel=>exact⟨d,m,rfl,rfl,G,by omega,hid ⟨q.out.1,fun t y hy B Q=>hc (M.out m t x y hx hy B Q)⟩,k⟩
    case measure=>simp[intOf];omega
  ·obtain rfl:d=hi:=by omega
   by_cases S:d<n
   ·have P:(d:Int)<(n:Int):=by omega
    obtain⟨x,hx⟩:∃x,l[d]?=some x:=⟨_,List.getElem?_eq_getElem (by have:=A.out;omega)⟩;have H:¬dL lba c x:=q.out.2 d x hx (Nat.le_refl _);have r:=hid (ed L.out hx)
    go_wp2_with (first
     |((with_reducible refine ao 130 (.tmp 43) g (d*3) x.cells _ (some 44) r.out underlying130 rfl aM ?hg ?ho ?hds ?hx ?_);(case ho|hg|hds|hx=>rfl))
     |fail)
    refine(tB x 0 lba c C D _ J.out K.out).mono ?_
    rintro e wa ⟨rfl,o⟩;have k:=hid (f.trans (o.mono f.size));rw[if_neg H];clear o;go_wp2_with fail;go_ret2;exact⟨⟨d,rfl,⟨by have:=A.out;omega,q.out.1,q.out.2⟩⟩,k.out⟩
   ·obtain rfl:d=n:=by omega
    go_wp2_with fail;go_ret2;exact⟨⟨d,rfl,⟨by have:=A.out;omega,q.out.1,q.out.2⟩⟩,f.out⟩
theorem bV (x:ag):∀v∈x.cells,v.oneCell'=true:=by intro v a;simp[ag.cells]at a;rcases a with rfl|rfl|rfl<;>rfl
theorem cE (w:World):Sem.run prog (zeroValue 130) w= .ok (.agg (ag.cells ⟨0,0,0⟩).toArray) w:=by kernel_rfl
structure mq (l:List ag) (lba epoch:Int) (x:ag):Prop where
 at_:∃k:Nat,fp l lba epoch (k+1)∧l[k]?=some x
 pl:x.lba=lba
 mono:∀(i j:Nat) (a b:ag),l[i]?=some a→l[j]?=some b→i≤j→dL lba epoch b→dL lba epoch a
theorem vZ (xb n:Nat) (xv:Value) (l:List ag) (lba a:Int) (x:ag) (w:World) (hX:ac w xb [.bool true,xv] 238) (hR:w.ownsRow 0 130 3 xv n (ar l)) (hl:l.length=n) (hn:n≤1048576) (hx:mq l lba a x):
  Calls prog 180 #[.pointer (some ⟨xb,0,none⟩), .int .i64 lba, .int .i64 a] w fun e w'=>e= .returned (.tuple #[.agg x.cells.toArray, .bool true])∧Below w.heap.size w w':=by
 obtain⟨⟨k,c,P⟩,F,d⟩:=hx;have Q:k<n:=by rw[←hl];exact(List.getElem?_eq_some_iff.1 P).1
 obtain⟨g,f,z,rfl,aq,O,Z⟩:=ba hR (by omega);obtain⟨m,hm⟩:∃m:Nat,m=k+1:=⟨_,rfl⟩;have bd:(m:Int)-1=(k:Int):=by omega
 have a9:((m:Int)==0)=false:=beq_eq_false_iff_ne.2 (by omega);have aA:(k:Int)<(n:Int):=by omega
 have be:IntKind.i64.wrap ((m:Int)-1)=(k:Int):=by rw[IntWalk.i64_in _ (by omega)];omega
 have a1:IntKind.i64.wrap (k:Int)=(k:Int):=IntWalk.i64_in _ (by omega);have a8:((k:Int)).toNat=k:=Int.toNat_natCast k;have a7:(0:Int)≤(k:Int):=by omega
 have q:=hid hX;have V:=hid Z;have HL:=hid hl;have L:=hid hn;have H:=hid (show fp l lba a m from by rw[hm];exact c);have W:=hid P;have N:=hid F;have K:=hid d;have bb:∀(Y:Fn) (first f:Array Value) (w:World),(Instr.makeFunc Y first f).run prog w= .ok (.func Y first f) w:=fun _ _ _ _=>rfl
 clear hX hR hl hn c P F d Q Z hm O;go_enter func180,ntmps180
 go_wp2_with (first
  |((with_reducible refine aO 3 (.tmp 1) (.int .i64 lba) rfl (some 4) ?hgd ?ho ?hd ?hx ?_);(case hgd|ho|hd|hx=>rfl);(intro b4 w4 R S C z4))
  |((with_reducible refine aO 3 (.tmp 2) (.int .i64 a) rfl (some 5) ?hgd ?ho ?hd ?hx ?_);(case hgd|ho|hd|hx=>rfl);(intro b5 w5 l5 T D z5))
  |((with_reducible refine ab 130 _ cE (some 6) ?hgd ?ho ?hd ?_);(case hgd|ho|hd=>rfl);(intro X w6 l6 U E z6;have G:=(((q.out.below (C.mono R) q.out.lt).below D (by have:=q.out.lt;have:=C.size;omega)).below E (by have:=q.out.lt;have:=C.size;have:=D.size;omega)).cell (i:=1) rfl))
  |fail)
 have h:Below w.heap.size w w6:=((C.mono R).trans (D.mono (by omega))).trans (E.mono (by omega));have o:=hid ((S.below D (by omega)).below E (by omega));have I:=hid (T.below E (by omega));have s:=hid U;have J:=hid (show w.heap.size≤X from by omega);have j:=hid h;have p:=hid (V.below h V.lt);have A:=hid (q.below h q.lt);clear S T U C D E R l5 l6 z4 z5 z6 h
 refine(ln g f n b4 b5 lba a l z _ p.out HL.out L.out o.out I.out K.out).mono ?_
 rintro e w7 ⟨⟨m',rfl,c⟩,b⟩;obtain rfl:m=m':=H.uniq c;have y:=hid (p.below b p.lt);have B:=hid (A.below b A.lt);have r:=hid (o.below b o.lt);have t:=hid (s.below b s.lt);have v:=hid (j.trans (b.mono j.size));clear b c G;go_upto_region 2 with fail;have G:=B.drew.cell (i:=1) rfl;have q4:=r.drew.cell (i:=0) rfl;have qx:w7.drew.cell? ⟨g,k*3,none⟩=some (.int .i64 lba):=by rw[←N.out];exact ed y.drew W.out 0 _ rfl
 refine aB (by kernel_rfl) (by kernel_rfl) ?_
 repeat still_step
 refine wpStill_nil ?_;clear G q4 qx;have G:=B.drew.cell (i:=1) rfl;have M:=hid (ed y.drew W.out);have u:=hid t.drew
 go_wp2_with (first
  |((with_reducible refine ao 130 (.tmp 41) g (k*3) x.cells _ (some 42) M.out underlying130 rfl aM ?hg ?ho ?hds ?hx ?_);(case ho|hg|hds|hx=>rfl))
  |((with_reducible refine aa 130 (.tmp 6) (.tmp 42) X (ag.cells ⟨0,0,0⟩) x.cells 130 u.out rfl aM (bV _) ?hgd ?ho ?hx ?hy ?_);(case hgd|ho|hx|hy=>rfl);(intro w9 B9 o9))
  |fail)
 (try simp only[Exit.inBlock,Exit.then]);refine bodyPost_ret (aU rfl _ _ B9.range rfl underlying130 rfl aM) rfl ⟨rfl,o9.below v.drew J.out⟩
theorem A7 (h n:Nat) (xv:Value) (l:List ag) (lba a:Int) (x:ag) (w:World) (j:ac w h [.bool true,xv] 238) (i:w.ownsRow 0 130 3 xv n (ar l)) (hl:l.length=n) (hn:n≤1048576) (hx:mq l lba a x):
  Calls prog 88 #[.pointer (some ⟨h,0,none⟩), .int .i64 lba, .int .i64 a] w fun e w'=>e= .returned (.tuple #[.agg x.cells.toArray, .bool true])∧Below w.heap.size w w':=by
 have o:=hid (fun(r:World) (j:ac r h [.bool true,xv] 238) (i:r.ownsRow 0 130 3 xv n (ar l))=>vZ h n xv l lba a x r j i hl hn hx);have t:=hid j;have y:=hid i;clear j i hl hn hx;go_enter func88,ntmps88
 go_wp2_with (first
  |((with_reducible refine ab 130 _ cE (some 6) ?hgd ?ho ?hd ?_);(case hgd|ho|hd=>rfl);(intro z C q s u B))
  |fail)
 have d:=hid s;have m:=hid q;have b:=hid (u.mono q);have g:=hid (t.below b.out t.lt);have p:=hid (own_below b.out y.out);clear s u B q
 refine(jp h _ _ g.out).mono ?_
 rintro e w' ⟨rfl,rfl⟩;go_wp2_with fail
 refine(o.out _ g.out p.out).mono ?_
 rintro e D ⟨rfl,c⟩;have k:=hid (d.below c d.lt);have f:=hid (b.trans (c.mono b.size));clear c
 go_wp2_with (first
  |((with_reducible refine aa 130 (.tmp 6) (.tmp 16) z (ag.cells ⟨0,0,0⟩) x.cells 130 k.out rfl aM (bV _) ?hgd ?ho ?hx ?hy ?_);(case hgd|ho|hx|hy=>rfl);(intro E v A))
  |fail)
 (try simp only[Exit.inBlock,Exit.then]);refine bodyPost_ret (aU rfl _ _ v.range rfl underlying130 rfl aM) rfl ⟨rfl,A.below f.out m.out⟩
open Go.Maps Go.WideMaps
theorem jI:Keyed prog 3:=int_keyed underlying3
theorem fK:Keyed prog 9:=string_keyed underlying9
theorem Fv {v:Value} {g:Bool} {a:List MemPlace} (h:plainElem (H:=Unit) prog 4 v=some (.lit (.bool g),a)):v= .bool g:=by
 have hu:prog.underlying 4=some .bool:=underlying4;unfold plainElem at h;rw[hu]at h
 cases v<;>simp at h
 rw[h.1]
theorem mr {w:World} {m n:Nat} {G:DataW Unit} {e:Int} {g:Bool} (h:w.ownsMap prog 3 (plainElem prog 4) m n G) (d:0≤e) (f:e≤4294967295) (b:G.atKey (.int .i64 e) (.lit (.bool false))= .lit (.bool g)):
  (Instr.lookup 191 (.map (some m)) (.int .i64 e) false).run prog w= .ok (.bool g) w:=by
 have cr:keyOf prog 3 (.int .i64 e)=some (.int .i64 e):=keyOf_int_mk underlying3 (WalkArith.wf_i64 (by omega));obtain⟨v,i,c,a⟩:=h.lookup jI underlying191 (z:= .bool false) (by kernel_rfl) (plainElem_bool underlying4 false) cr;rw[b]at a;rw[c,Fv a]
theorem jt (b j c d f n:Nat) (first a e:Int) (U L G:DataW Unit) (g:Bool) (w:World) (h:ac w b (aT j first a c d f) 193) (l:bf w c d f n U L G) (p:0≤e) (q:e≤4294967295) (k:G.atKey (.int .i64 e) (.lit (.bool false))= .lit (.bool g)):
  Calls prog 58 #[.pointer (some ⟨b,0,none⟩), .int .i64 e] w fun x w'=>x= .returned (.bool g)∧w=w':=by
 have m:=mr l.g p q k;have r:=h.cell (i:=5) rfl;have o:=hid h;clear h l k;go_enter func58,ntmps58;go_wp2_with fail
 refine(dJ b j first a c d f _ o.out).mono ?_
 rintro e s ⟨rfl,rfl⟩;go_wp2_with fail;go_ret;exact⟨rfl,rfl⟩
theorem ku (b:Nat) (now t:Int) (w:World) (h:ac w b [.bool true, .int .i64 now] 188) (k:0≤t) (l:t≤1099511627776) (m:now≤t):
  Calls prog 112 #[.pointer (some ⟨b,0,none⟩), .int .i64 t] w fun e w'=>(e= .returned (.int .i64 0)∧ac w' b [.bool true, .int .i64 t] 188)∧af [b] w w':=by
 have f:∀(d:Fn) (first a:Array Value) (w:World),(Instr.makeFunc d first a).run prog w= .ok (.func d first a) w:=fun _ _ _ _=>rfl
 have g:=h.cell (i:=1) rfl;have j:=h.free 1;have c:=hid h;clear h;go_enter func112,ntmps112;go_wp2_with fail
 refine(fR b now _ c.out).mono ?_
 rintro e n ⟨rfl,rfl⟩;go_wp2_with fail;go_ret;exact⟨⟨rfl,(c.set 1 _).ext rfl⟩,(af.refl _ _).setCell (.inl (by simp)) 1 _⟩
theorem y8 (p E u y A n:Nat) (first a:Int) (U L G:DataW Unit) (r:Rec) (w:World) (h:ac w p (aT E first a u y A) 193) (t:bf w u y A n U L G) (q:r.kind=1) (hn:r.name.size≤16):
  Calls prog 244 #[.pointer (some ⟨p,0,none⟩),r.v] w fun x w'=>x= .returned (.int .i64 0)∧Below w.heap.size w w':=by
 have o:=hid h;have C:=hid t;have B:=hid q;have m:=hid hn;clear h t q hn;go_enter func244,ntmps244
 go_wp2_with (first
  |((with_reducible refine ae 59 (.tmp 1) r.cells (some 3) ?hgd ?ho ?hd ?hx ?_);(case hgd|ho|hd|hx=>rfl);(intro D H e f d I))
  |fail)
 have g:=hid (o.below (d.mono e) o.lt);have k:=hid (C.below (d.mono e));have M:H.cell? ⟨D,0,none⟩=some (.int .i64 1):=by have:=f.cell (i:=0) rfl;rw[B.out]at this;exact this
 have N:=f.cell (i:=7) rfl;have J:=g.cell (i:=4) rfl;obtain⟨v,K,c,F⟩:=(World.ownsMap.drew k.l).look_ok fK underlying190 (z:= .int .i64 0) (by kernel_rfl) (plainElem_int underlying3 (by decide)) (keyOf_string_mk underlying9 (s:=r.name) (by have:=m.out;unfold maxLen;omega));obtain⟨ok,b⟩:∃ok,Maps.has L (.string r.name.data.toList)=ok:=⟨_,rfl⟩;rw[b]at c;have j:=hid (d.mono e);clear F b f d I e;refine aB (by kernel_rfl) (by kernel_rfl) ?_
 repeat still_step
 refine wpStill_nil ?_;go_wp2_with fail;go_ret;exact⟨rfl,j.drew⟩
theorem Fz (y E M N O n:Nat) (first a now:Int) (U L G:DataW Unit) (r:Rec) (w:World) (h:ac w y (aT E first a M N O) 193) (hc:ac w E [.bool true, .int .i64 now] 188) (hm:bf w M N O n U L G) (hk:r.kind=1) (t:aI r=true) (H:r.epoch=a) (I:now≤r.time):
  Calls prog 178 #[.pointer (some ⟨y,0,none⟩),r.v] w fun x w'=>x= .returned (.int .i64 0)∧Below w.heap.size w w':=by
 have hf:=dh t;have Y:=hid h;have Z:=hid hc;have HM:=hid hm;have HK:=hid hk;have T:=hid t;have B:=hid H;have C:=hid (show r.name.size≤16 from by omega);have Q:=hid (show Fits r.epoch from by unfold Fits;omega);have V:¬r.time<now:=by omega
 clear h hc hm hk t H hf I;go_enter func178,ntmps178
 go_wp2_with (first
  |((with_reducible refine ae 59 (.tmp 1) r.cells (some 3) ?hgd ?ho ?hd ?hx ?_);(case hgd|ho|hd|hx=>rfl);(intro D w3 J X F z3))
  |fail)
 have q:=hid X;have m:=hid (F.mono J);have p:=hid (Y.below (F.mono J) Y.lt);have A:=hid (Z.below (F.mono J) Z.lt);have R:=hid (HM.below (F.mono J));clear X F z3 J
 refine(dJ y E first a M N O _ p.out).mono ?_
 rintro e w' ⟨rfl,rfl⟩
 go_wp2_with (first
  |((with_reducible refine aj 59 (.tmp 3) D r.cells 59 _ q.out underlying59 rfl aV ?hgd ?ho ?hx ?_);(case hgd|ho|hx=>rfl))
  |fail)
 refine(iW r _ (by have:=C.out;omega) Q.out).mono ?_
 rintro e w4 ⟨rfl,j⟩;rw[me T.out];have b:=hid (q.below j q.lt);have k:=hid (p.below j p.lt);have P:=hid (A.below j A.lt);have f:=hid (R.below j);have o:=hid (m.trans (j.mono m.size));clear j;go_upto_region 5 with fail;refine wp_region_held_drew (S:=fun W=>W.cell? ⟨D,1,none⟩=some (.int .i64 r.epoch)∧W.cell? ⟨y,2,none⟩=some (.int .i64 r.epoch)∧W.cell? ⟨D,2,none⟩=some (.int .i64 r.time)) (by kernel_rfl) (⟨b.drew.cell (i:=1) rfl,(by have:=k.drew.cell (i:=2) rfl;rw[←B.out]at this;exact this),b.drew.cell (i:=2) rfl⟩) (fun c=> ?_);refine hp 0 ?_;refine hp 1 ?_;refine hp 2 ?_;refine hp 3 ?_;refine hp 4 ?_;refine hp 5 ?_;refine hp 6 ?_;refine hp 7 ?_;refine hp 8 ?_;refine hp 9 ?_;refine hp 10 ?_;refine wpAnyH_ready (rs:=[11]) (by kernel_rfl) (by simp) ?_;refine AllReadyH.cons rfl (fun K hK=> ?_) AllReadyH.nil;go_simp
 refine(ko y E first a M N O _ k.drew now P.drew).mono ?_
 rintro e w' ⟨rfl,rfl⟩
 (try go_wp2_with fail)
 refine hK.out _ _ (⟨b.drew.cell (i:=1) rfl,(by have:=k.drew.cell (i:=2) rfl;rw[←B.out]at this;exact this),b.drew.cell (i:=2) rfl⟩) (fun d=> ?_);clear hK K c;have c:=d;clear d
 (try go_frame)
 refine hp 12 ?_;refine hp 13 ?_;refine hp 14 ?_;refine wpAnyH_done (by kernel_rfl) ?_ _;clear c
 go_wp2_with (first
  |((with_reducible refine aj 59 (.tmp 3) D r.cells 59 _ b.out.drew underlying59 rfl aV ?hgd ?ho ?hx ?_);(case hgd|ho|hx=>rfl))
  |fail)
 refine(y8 y E M N O n first a U L G r _ k.drew ⟨f.u,f.l,f.g,f.n1,f.n2,f.n3⟩ HK.out C.out).mono ?_
 rintro e w6 ⟨rfl,s⟩;have q0:w6.cell? ⟨D,0,none⟩=some (.int .i64 1):=by have:=(b.drew.below s b.lt).cell (i:=0) rfl;rw[HK.out]at this;exact this
 have z:=hid (o.drew.trans (s.mono o.size));clear s;go_wp2_with fail;go_ret;exact⟨rfl,z.out⟩
theorem A8 (m j A B C n:Nat) (first c now:Int) (U L G:DataW Unit) (r:Rec) (w:World) (h:ac w m (aT j first c A B C) 193) (hc:ac w j [.bool true, .int .i64 now] 188) (hm:bf w A B C n U L G) (hk:r.kind=1) (u:aI r=true) (Q:r.epoch=c) (l:now≤r.time) (R:m≠j):
  Calls prog 86 #[.pointer (some ⟨m,0,none⟩),r.v] w fun x w'=>(x= .returned (.int .i64 0)∧ac w' m (aT j first (c+1) A B C) 193∧ac w' j [.bool true, .int .i64 r.time] 188)∧af [m,j] w w':=by
 have hf:=dh u;have HB:=hid h;have HC:=hid hc;have HM:=hid hm;have HK:=hid hk;have I:=hid R;have V:=hid hc.lt;have HT:=hid (show 0≤r.time∧r.time≤1099511627776∧now≤r.time from⟨by omega,by omega,l⟩);have F:=hid (show 0≤c∧c≤4294967295 from⟨by omega,by omega⟩);have H:=hid (fun(y:World) (a:ac y m (aT j first c A B C) 193) (b:ac y j [.bool true, .int .i64 now] 188) (d:bf y A B C n U L G)=>Fz m j A B C n first c now U L G r y a b d hk u Q l);clear h hc hm hk u Q l R hf;go_enter func86,ntmps86
 go_wp2_with (first
  |((with_reducible refine ae 59 (.tmp 1) r.cells (some 3) ?hgd ?ho ?hd ?hx ?_);(case hgd|ho|hd|hx=>rfl);(intro b3 w3 z T O z3))
  |((with_reducible refine aj 59 (.tmp 3) b3 r.cells 59 _ T underlying59 rfl aV ?hgd ?ho ?hx ?_);(case hgd|ho|hx=>rfl))
  |fail)
 have J:=hid T;have Y:=hid z;have q:=hid (O.mono z);have s:=hid (HB.below (O.mono z) HB.lt);have t:=hid (HC.below (O.mono z) HC.lt);have Z:=hid (HM.below (O.mono z));clear T O z3 z
 refine(H.out _ s.out t.out Z.out).mono ?_
 rintro e w4 ⟨rfl,k⟩;have M:=hid (J.below k J.lt);have D:=hid (s.below k s.lt);have W:=hid (t.below k t.lt);have E:=hid (q.trans (k.mono q.size));clear k;go_upto_region 4 with fail;refine wp_region_held_drew (S:=fun y=>y.cell? ⟨m,0,none⟩=some (.pointer (some ⟨j,0,none⟩))∧y.cell? ⟨b3,2,none⟩=some (.int .i64 r.time)) (by kernel_rfl) (⟨D.drew.cell (i:=0) rfl,M.drew.cell (i:=2) rfl⟩) (fun f=> ?_);refine hp 0 ?_;refine hp 1 ?_;refine hp 2 ?_;refine hp 3 ?_;refine hp 4 ?_;refine hp 5 ?_;refine wpAnyH_ready (rs:=[6]) (by kernel_rfl) (by simp) ?_;refine AllReadyH.cons rfl (fun K hK=> ?_) AllReadyH.nil;go_simp
 refine(ku j now r.time _ W.drew HT.out.1 HT.out.2.1 HT.out.2.2).mono ?_
 rintro e w5 ⟨⟨rfl,P⟩,p⟩;have o:=hid (p.blk D.drew (by simp;exact I.out));have N:=hid (p.blk M.drew (by simp;have:=Y.out;have:=V.out;omega));have X:=hid P;have an:=hid p;clear P p
 (try go_wp2_with fail)
 refine hK.out _ _ (⟨o.cell (i:=0) rfl,N.cell (i:=2) rfl⟩) (fun g=> ?_);clear hK K f;have f:=g;clear g
 (try go_frame)
 refine wpAnyH_done (by kernel_rfl) ?_ _;clear f;have q0:w5.cell? ⟨b3,0,none⟩=some (.int .i64 1):=by have:=N.cell (i:=0) rfl;rw[HK.out]at this;exact this
 have a6:=o.cell (i:=2) rfl;have a7:=o.free 2;have a8:=F.out.1;have a9:=F.out.2;go_wp2_with fail;go_ret;refine⟨⟨rfl,(o.set 2 _).ext rfl, ?_⟩, ?_⟩
 ·exact X.set_other (by show j≠m;exact fun e=>I.out e.symm) _
 ·have t1:af [m,j] w w4.drew:=(af.of_below E.out (Nat.le_refl _)).drew
  exact(t1.trans (an.mono (by simp))).trans ((af.refl _ _).setCell (.inl (by simp)) 2 _)
end Go.Proofs.YtadooplpfhdhcaaGreat
