/- A journal within a volume (chapter 25): next, time. A journal within a volume (chapter 25): Close. A volume's blocks (chapter 26): a block of another type is none of them, and what is turned beside them leaves it. -/
import Derived.Test.YtadooplpfhdhcaaGreatQ14
import Derived.Test.YtadooplpfhdhcaaGreatQ11
import Derived.Test.YtadooplpfhdhcaaGreatQ9
import Derived.Test.YtadooplpfhdhcaaGreatQ7
import Derived.Test.YtadooplpfhdhcaaGreatQ13
set_option linter.unusedSimpArgs false
set_option linter.unusedVariables false
set_option maxRecDepth 100000
set_option maxHeartbeats 4000000
namespace Go.Proofs.YtadooplpfhdhcaaGreat
open Go Go.RowKit
open Go.Lib (hid)
open Go.Proofs.Tryz
theorem nZ (s:aF) (w:World) (t:eL s) (G:s.gen≠1152921504606846976):
  Calls prog 176 #[s.v] w fun e w'=>e= .returned (.tuple #[({s with gen:=s.gen+1}:aF).v, .int .i64 0])∧Below w.heap.size w w':=by
 have K:=hid t;have q:(s.gen==1152921504606846976)=false:=beq_eq_false_iff_ne.2 G;have hb:s.gen+1≤1152921504606846976:=by have:=t.g1;omega
 have l:0≤s.gen:=by have:=t.g0;omega
 obtain⟨gen,d,b,a,⟨blocks,c,first⟩⟩:=s;simp only at q hb l;have I:=hid (And.intro hb l);have J:=hid q;have Q:wrap64 (gen+1)=gen+1:=by unfold wrap64;omega
 clear t G hb l q;go_enter func176,ntmps176
 go_wp2_with (first
  |((with_reducible refine ae 163 (.tmp 0) (aF.cells ⟨gen,d,b,a,⟨blocks,c,first⟩⟩) (some 1) ?hgd ?ho ?hd ?hx ?_);(case hgd|ho|hd|hx=>rfl);(intro j R u E F D))
  |((with_reducible refine ab 163 _ cX (some 2) ?hgd ?ho ?hd ?_);(case hgd|ho|hd=>rfl);(intro r S C x B P;have g:=E.below B (Nat.lt_of_lt_of_le D C)))
  |((with_reducible refine aj 163 (.tmp 1) j (aF.cells ⟨gen,d,b,a,⟨blocks,c,first⟩⟩) 163 _ g underlying163 rfl aQ ?hgd ?ho ?hx ?_);(case hgd|ho|hx=>rfl))
  |fail)
 refine(pD ⟨gen,d,b,a,⟨blocks,c,first⟩⟩ _ K.out).mono ?_
 rintro e O ⟨rfl,h⟩;have k:=hid (g.below h g.lt);have y:=hid (x.below h x.lt);have A:=hid (show w.heap.size≤j∧j<r from⟨u,by omega⟩);have z:=hid (((F.mono u).trans (B.mono (Nat.le_trans u (Nat.le_trans (Nat.le_of_lt D) C)))).trans (h.mono (by omega)));have L:=k.cell (i:=0) rfl;have M:=k.free 0;have q:=J.out;clear h E g x F B D P u C;go_upto_region 7 with fail;obtain⟨w4,f⟩:∃w4,O.setCell ⟨j,0,none⟩ (.int .i64 (gen+1))=w4:=⟨_,rfl⟩;have m:=hid (show ac w4 j (aF.cells ⟨gen+1,d,b,a,⟨blocks,c,first⟩⟩) 163 from by rw[←f];exact(k.set 0 _).ext rfl);have n:=hid (show ac w4 r aF.zero.cells 163 from by rw[←f];exact y.set_other (by show r≠j;have:=A.out;omega) _);have o:=hid (show Below w.heap.size w w4 from by rw[←f];exact z.setCell (p:=⟨j,0,none⟩) A.out.1 _);rw[f];clear f L M q
 go_wp2_with (first
  |((with_reducible refine aj 163 (.tmp 1) j (aF.cells ⟨gen+1,d,b,a,⟨blocks,c,first⟩⟩) 163 _ m.out underlying163 rfl aQ ?hgd ?ho ?hx ?_);(case hgd|ho|hx=>rfl))
  |((with_reducible refine aa 163 (.tmp 2) (.tmp 19) r aF.zero.cells (aF.cells ⟨gen+1,d,b,a,⟨blocks,c,first⟩⟩) 163 n.out rfl aQ (cJ _) ?hgd ?ho ?hx ?hy ?_);(case hgd|ho|hx|hy=>rfl);(intro T H N))
  |fail)
 (try simp only[Exit.inBlock,Exit.then]);refine bodyPost_ret (aU rfl _ _ H.range rfl underlying163 rfl aQ) rfl ⟨rfl,N.below o.out (by have:=A.out;omega)⟩
theorem tV (i:ap) (v:ai) (t:Int) (w:World) (h:al w i v) (b:v.last.clock≤t) (c:t≤1099511627776):
  Calls prog 115 #[.pointer (some ⟨i.jb,0,none⟩), .int .i64 t] w fun e w'=>e= .returned (.bool true)∧w=w':=by
 have a:w.cell? ⟨i.jb,5,none⟩=some (.int .i64 v.last.clock):=h.jour.cell (i:=5) rfl;go_enter func115,ntmps115;go_wp2_with fail;go_ret
 first|exact⟨rfl,rfl⟩|exact⟨dX (by simp;omega),rfl⟩|exact⟨dX (by simp),rfl⟩
theorem tW (i:ap) (v:ai) (t:Int) (w:World) (h:al w i v) (O:bp v) (hg:v.last.gen≠1152921504606846976):
  Calls prog 114 #[.pointer (some ⟨i.jb,0,none⟩), .int .i64 t] w fun e w'=>e= .returned (.tuple #[(⟨v.last.gen+1,v.used,v.last.epoch,t,v.last.geo⟩:aF).v, .int .i64 0])∧Below w.heap.size w w':=by
 have U:=hid (fun(r:World)=>nZ v.last r O.sup hg);have I:=hid O;have E:=hid h;obtain⟨⟨f,d,a,c,⟨blocks,b,first⟩⟩,hl⟩:∃s,v.last=s:=⟨_,rfl⟩;have G:=hid hl;have hR:w.rangeAt i.jb 2 (aF.cells ⟨f,d,a,c,⟨blocks,b,first⟩⟩):=by have:=ox h.jour;rw[hl]at this;exact this
 have hn:∀r,Calls prog 176 #[.agg #[.int .i64 f, .int .i64 d, .int .i64 a, .int .i64 c, .int .i64 blocks, .int .i64 b, .int .i64 first]] r fun e w'=>e= .returned (.tuple #[.agg #[.int .i64 (f+1), .int .i64 d, .int .i64 a, .int .i64 c, .int .i64 blocks, .int .i64 b, .int .i64 first], .int .i64 0])∧Below r.heap.size r w':=by
  intro r
  have:=U.out r
  rw[hl]at this;exact this
 have H:=hid hn;rw[hl];clear O hg hl hn h;go_enter func114,ntmps114
 go_wp2_with (first
  |((with_reducible refine ab 163 _ cX (some 4) ?hgd ?ho ?hd ?_);(case hgd|ho|hd=>rfl);(intro A w1 B Q K P;have J:=hid (show w1.rangeAt i.jb 2 (aF.cells ⟨f,d,a,c,⟨blocks,b,first⟩⟩)from by have:=ox (E.out.jour.below (K.mono B) E.out.jour.lt);rw[G.out]at this;exact this)))
  |((with_reducible refine ao 163 (.tmp 11) i.jb 2 (aF.cells ⟨f,d,a,c,⟨blocks,b,first⟩⟩) _ (some 12) J.out underlying163 rfl aQ ?hg ?ho ?hds ?hx ?_);(case ho|hg|hds|hx=>rfl))
  |fail)
 refine(H.out _).mono ?_
 rintro e w2 ⟨rfl,q⟩;have o:=hid (Q.below q P);have F:=hid B;have k:=hid ((K.mono B).trans (q.mono (Nat.le_trans B (Nat.le_of_lt P))));clear q Q K P B
 go_upto_region 2 with(first
  |((with_reducible refine ab 163 _ cX (some 6) ?hgd ?ho ?hd ?_);(case hgd|ho|hd=>rfl);(intro l w3 C R L z6))
  |((with_reducible refine aa 163 (.tmp 6) (.tmp 14) l aF.zero.cells (aF.cells ⟨f+1,d,a,c,⟨blocks,b,first⟩⟩) 163 R rfl aQ (cJ _) ?hgd ?ho ?hx ?hy ?_);(case hgd|ho|hx|hy=>rfl);(intro w8 S N))
  |fail)
 have j:=hid S;have g:=hid (show w.heap.size≤l∧A<l from⟨Nat.le_trans k.size C,Nat.lt_of_lt_of_le o.lt C⟩);have n:=hid (N.below (k.trans (L.mono (Nat.le_trans k.size C))) g.out.1);have u:=hid (N.blk (o.below L (by have:=o.lt;omega)) (by have:=g.out;omega));have T:=hid (E.below n.out);clear R S N L z6 C;have V:=T.jour.cell (i:=0) rfl;go_wp2_with fail
 refine(kG i.sb v.last.geo v.used _ T.space I.sup.geo).mono ?_
 rintro e w' ⟨rfl,rfl⟩;have Y:=j.cell (i:=1) rfl;have W:=j.free 1;have Z:=j.cell (i:=3) rfl;have X:=j.free 3;clear V;go_upto_region 5 with fail;obtain⟨w9,m⟩:∃w9,(w8.setCell ⟨l,1,none⟩ (.int .i64 v.used)).setCell ⟨l,3,none⟩ (.int .i64 t)=w9:=⟨_,rfl⟩;have y:=hid (show ac w9 l (aF.cells ⟨f+1,v.used,a,t,⟨blocks,b,first⟩⟩) 163 from by rw[←m];exact((j.set 1 _).set 3 _).ext rfl);have x:=hid (show ac w9 A aF.zero.cells 163 from by rw[←m];exact(u.set_other (by show A≠l;have:=g.out;omega) _).set_other (by show A≠l;have:=g.out;omega) _);have z:=hid (show Below w.heap.size w w9 from by rw[←m];exact(n.setCell (p:=⟨l,1,none⟩) g.out.1 _).setCell (p:=⟨l,3,none⟩) g.out.1 _);rw[m];clear m Y W Z X
 go_wp2_with (first
  |((with_reducible refine aj 163 (.tmp 6) l (aF.cells ⟨f+1,v.used,a,t,⟨blocks,b,first⟩⟩) 163 _ y.out underlying163 rfl aQ ?hgd ?ho ?hx ?_);(case hgd|ho|hx=>rfl))
  |((with_reducible refine aa 163 (.tmp 4) (.tmp 28) A aF.zero.cells (aF.cells ⟨f+1,v.used,a,t,⟨blocks,b,first⟩⟩) 163 x.out rfl aQ (cJ _) ?hgd ?ho ?hx ?hy ?_);(case hgd|ho|hx|hy=>rfl);(intro an D M))
  |fail)
 (try simp only[Exit.inBlock,Exit.then]);refine bodyPost_ret (aU rfl _ _ D.range rfl underlying163 rfl aQ) rfl ⟨rfl,M.below z.out F.out⟩
def ev (v:ai) (clock:Int):aF:=⟨v.last.gen+1,v.used+1,v.last.epoch+1,clock,v.last.geo⟩
def ff (v:ai) (block kb q nb:ByteArray):am:=
 ({(({(({v.d with cs:=v.d.cs++[(4+v.used,block)]++[(2+(v.last.epoch+1) % 2,kb)]}:am).flushed)with cs:=[((v.last.gen+1) % 2,q)]}:am).flushed)with cs:=[(2+v.last.epoch % 2,nb)]}:am).flushed
theorem Bv (i:ap) (v:ai) (f next:ByteArray) (c:Int) (w:World) (h:al w i v) (D:bp v) (hb:f.size=4096) (hn:next.size=32) (hu:v.used<v.last.geo.blocks-4) (cz:v.last.clock≤c) (bb:c≤1099511627776) (hg:v.last.gen≠1152921504606846976) (he:v.last.epoch<4294967295):
  Calls prog 85 #[.pointer (some ⟨i.jb,0,none⟩), .string f, .string next, .int .i64 c] w fun e w'=>e= .returned (.tuple #[.int .i64 v.used, .int .i64 0])∧∃kb q nb,ah kb (ew (v.last.epoch+1) next.data.toList)∧ah q (cG (ev v c))∧nb=(⟨(List.replicate 4096 0).toArray⟩:ByteArray)∧aJ w w' i v i {v with used:=v.used+1,last:=ev v c,d:=ff v f kb q nb}:=by
 have fT:(f.size:Int)=4096:=by omega
 have f3:(next.size:Int)=32:=by omega
 obtain⟨u,I⟩:∃u,v.used=u:=⟨_,rfl⟩;obtain⟨ep,N⟩:∃ep,v.last.epoch=ep:=⟨_,rfl⟩;have c5:0≤ep:=by have:=D.sup.e0;have:=D.sup.geo.f0;omega
 obtain⟨m,O⟩:∃m:Nat,ep+1=(m:Int):=⟨(ep+1).toNat,by omega⟩
 have ce:=hid (show eL (ev v c)from by
  have g0:=D.sup.g0;have g1:=D.sup.g1;have c0:=D.sup.c0;have e0:=D.sup.e0;have u0:=D.u0;exact⟨D.sup.geo,by show 1≤v.last.gen+1;omega,by show v.last.gen+1≤1152921504606846976;omega,by show 0≤v.used+1;omega,by show v.used+1≤v.last.geo.blocks-4;omega,by show v.last.geo.first≤v.last.epoch+1;omega,by show v.last.epoch+1<4294967296;omega,by show 0≤c;omega,bb⟩)
 have el:=hid (fun(Z:World)=>nZ v.last Z D.sup hg);have ef:=hid (fun(Z:World) (v':ai) (hv:al Z i v') (ho:bp v') (hl:v'.last=v.last)=>tW i v' c Z hv ho (by rw[hl];exact hg));have HU:=hid I;have E:=hid N;have HM:=hid O;have n:=hid (show 0≤u∧u<v.last.geo.blocks-4 from⟨by rw[←I];exact D.u0,by rw[←I];exact hu⟩);have L:=hid (show 0≤ep∧ep<4294967295 from⟨c5,by rw[←N];exact he⟩);have e5:¬(4294967295:Int)≤ep:=by omega
 have k:=hid D;have HB:=hid (And.intro hb hn);have ck:=hid (And.intro cz bb);have H0:=hid h;rw[I,N];clear hu I D hb hn cz bb hg he N O h c5;have h:=H0.out;go_enter func85,ntmps85;go_wp2_with fail
 refine(ix i v _ h).mono ?_
 rintro e w' ⟨rfl,rfl⟩;go_wp2_with fail
 refine(tV i v c _ h ck.out.1 ck.out.2).mono ?_
 rintro e w' ⟨rfl,rfl⟩;have c4:w.cell? ⟨i.jb,4,none⟩=some (.int .i64 ep):=by rw[←E.out];exact h.jour.cell (i:=4) rfl
 go_upto_region 7 with fail;clear c4;have HR:=hid (ox h.jour)
 go_wp2_with (first
  |((with_reducible refine ao 163 (.tmp 50) i.jb 2 v.last.cells _ (some 51) HR.out underlying163 rfl aQ ?hg ?ho ?hds ?hx ?_);(case ho|hg|hds|hx=>rfl))
  |fail)
 refine(el.out _).mono ?_
 rintro e wa ⟨rfl,a9⟩;have ad:=hid a9;have Ha:=hid (h.below a9);clear a9 h
 go_upto_region 8 with(first
  |((with_reducible refine ab 163 _ cX (some 12) ?hgd ?ho ?hd ?_);(case hgd|ho|hd=>rfl);(intro es w3 bk b3 cw eD))
  |((with_reducible refine aa 163 (.tmp 12) (.tmp 53) es aF.zero.cells (({v.last with gen:=v.last.gen+1}:aF).cells) 163 b3 rfl aQ (cJ _) ?hgd ?ho ?hx ?hy ?_);(case hgd|ho|hx|hy=>rfl);(intro w8 B8 o8))
  |fail)
 have R:=hid (o8.below (ad.trans (cw.mono (Nat.le_trans ad.size bk))) (Nat.le_trans ad.size bk));have H8:=hid (H0.below R.out);clear b3 B8 cw o8 eD bk;have c0:=H8.jour.cell (i:=0) rfl;go_wp2_with fail
 refine(sZ i.sb v.last.geo u _ (by rw[←HU.out];exact H8.space) k.sup.geo n.out.1 n.out.2).mono ?_
 rintro e wb ⟨⟨rfl,c8⟩,c9⟩;have eq:=hid (aJ.ahead R.out (H8.take c9 c8));clear c9 c8 c0;have O:=HM.out;have f5:IntKind.i64.wrap (m:Int)=(m:Int):=IntWalk.i64_in _ (by have:=L.out;omega);go_wp2_with fail
 refine(lx m next _ (by have:=L.out.2;omega) HB.out.2).mono ?_
 rintro e wc ⟨kb,rfl,tk,cy⟩;have ci:=hid tk;have cl:=hid (eq.below cy);clear tk cy;go_upto_region 14 with fail;refine wp_region_held_drew (S:=fun Z=>Z.cell? ⟨i.jb,1,none⟩=some (.pointer (some ⟨i.db,0,none⟩))) (by kernel_rfl) (cl.at'.jour.drew.cell (i:=1) rfl) (fun b=> ?_);obtain⟨wd,r⟩:∃wd,wd=wc.drew:=⟨_,rfl⟩;have F:=hid (show aJ w wd i v i {v with used:=u+1} from by rw[r];exact cl.below (Below.refl _ _).drew);rw[←r];rw[←r]at b;clear r;refine hp 0 ?_;refine hp 1 ?_;refine hp 2 ?_;refine hp 3 ?_;refine hp 5 ?_;refine hp 7 ?_;refine hp 8 ?_;refine hp 9 ?_;refine hp 11 ?_;refine hp 13 ?_;refine hp 14 ?_;refine hp 15 ?_;refine hp 16 ?_;refine hp 17 ?_;refine wpAnyH_ready (rs:=[4]) (by kernel_rfl) (by simp) ?_;refine AllReadyH.cons rfl (fun K g=> ?_) AllReadyH.nil;go_simp
 refine(iU i.jb i.db _ v.last u _ F.at'.jour k.sup.geo n.out.1 n.out.2).mono ?_
 rintro e we ⟨rfl,B⟩;have T:=hid (F.below B);have eg:=hid (fun x (hx:x∈v.d.foot i.db)=>Nat.lt_of_lt_of_le (F.at'.disk.lt x hx) B.size);clear B
 (try go_wp2_with fail)
 refine g.out _ _ (T.at'.jour.cell (i:=1) rfl) (fun a=> ?_);clear g K b;have b:=a;clear a
 (try go_frame)
 refine wpAnyH_ready (rs:=[6]) (by kernel_rfl) (by simp) ?_;refine AllReadyH.cons rfl (fun K g=> ?_) AllReadyH.nil;go_simp
 refine(fZ i.jb (4+u) f _).mono ?_
 rintro e wf ⟨⟨bl,bo,bv,rfl,bA,W,X,Y⟩,j⟩;have G:=hid (T.below j);have ca:=hid bA;have eb:=hid (And.intro W (And.intro X Y));have co:=hid j.size;clear j bA W X Y
 (try go_wp2_with fail)
 refine g.out _ _ (G.at'.jour.cell (i:=1) rfl) (fun a=> ?_);clear g K b;have b:=a;clear a
 (try go_frame)
 refine wpAnyH_ready (rs:=[10]) (by kernel_rfl) (by simp) ?_;refine AllReadyH.cons rfl (fun K g=> ?_) AllReadyH.nil;go_simp
 refine(iT (m:Int) _ (by omega)).mono ?_
 rintro e w' ⟨rfl,rfl⟩
 (try go_wp2_with fail)
 refine g.out _ _ (G.at'.jour.cell (i:=1) rfl) (fun a=> ?_);clear g K b;have b:=a;clear a
 (try go_frame)
 refine wpAnyH_ready (rs:=[12]) (by kernel_rfl) (by simp) ?_;refine AllReadyH.cons rfl (fun K g=> ?_) AllReadyH.nil;go_simp
 refine(fZ i.jb (2+(m:Int) % 2) kb _).mono ?_
 rintro e wg ⟨⟨bm,bs,bw,rfl,bA,W,X,Y⟩,j⟩;have U:=hid (G.below j);have cb:=hid bA;have ec:=hid (And.intro W (And.intro X Y));have cu:=hid j.size;have a1:=hid (ca.below j);clear j bA W X Y
 (try go_wp2_with fail)
 refine g.out _ _ (U.at'.jour.cell (i:=1) rfl) (fun a=> ?_);clear g K b;have b:=a;clear a
 (try go_frame)
 refine wpAnyH_ready (rs:=[18]) (by kernel_rfl) (by simp) ?_;refine AllReadyH.cons rfl (fun K g=> ?_) AllReadyH.nil;go_simp;obtain⟨wh,s⟩:∃wh,wh=wg.alloc (Obj.cells #[.func (.func 187) #[] #[.pointer (some ⟨bl,0,none⟩), .pointer (some ⟨bo,0,none⟩), .pointer (some ⟨bv,0,none⟩)], .func (.func 187) #[] #[.pointer (some ⟨bm,0,none⟩), .pointer (some ⟨bs,0,none⟩), .pointer (some ⟨bw,0,none⟩)], .func (.func 100) #[.pointer (some ⟨i.db,0,none⟩)] #[]] 42):=⟨_,rfl⟩;rw[←s];have y:Below wg.heap.size wg wh:=by rw[s];exact(Below.refl _ _).alloc (Nat.le_refl _) _
 have b9:=hid (show ac wh wg.heap.size [.func (.func 187) #[] #[.pointer (some ⟨bl,0,none⟩), .pointer (some ⟨bo,0,none⟩), .pointer (some ⟨bv,0,none⟩)], .func (.func 187) #[] #[.pointer (some ⟨bm,0,none⟩), .pointer (some ⟨bs,0,none⟩), .pointer (some ⟨bw,0,none⟩)], .func (.func 100) #[.pointer (some ⟨i.db,0,none⟩)] #[]] 42 from by rw[s];exact ac.new wg _ _);have l:=hid (U.below y);have a2:=hid (a1.below y);have a3:=hid (cb.below y);clear y s
 (try go_wp2_with fail)
 refine g.out _ _ (l.at'.jour.cell (i:=1) rfl) (fun a=> ?_);clear g K b;have b:=a;clear a
 (try go_frame)
 refine wpAnyH_ready (rs:=[19]) (by kernel_rfl) (by simp) ?_;refine AllReadyH.cons rfl (fun K g=> ?_) AllReadyH.nil;go_simp
 refine(uM i.jb i.db wg.heap.size 3 v.last.geo.blocks.toNat v.used.toNat bl bo bv (4+u) f bm bs bw (2+(m:Int) % 2) kb 42 v.d _ l.at'.disk b9.out (l.at'.jour.cell (i:=1) rfl) l.at'.jour.lt a2.out a3.out (by
  intro x hx O;have ex:=eg.out x O;have h1:=eb.out;have h2:=ec.out;have h3:=co.out;have h4:=cu.out
  rcases hx with rfl|rfl|rfl|rfl|rfl|rfl|rfl|rfl
  ·omega
  ·exact(l.at'.jour.ty.notin l.at'.disk.tyIn (by decide)) O
  all_goals omega) k.calm (by have:=k.few;omega) k.blocks ⟨by have:=n.out.1;omega,by have:=n.out.2;omega⟩ HB.out.1 ⟨by omega,by have:=k.sup.geo.b0;omega⟩ (by rw[ci.size];exact nM HB.out.2)).mono ?_
 rintro e w2 ⟨rfl,V,cW,dc⟩;have b6:=hid cW;have a5:=hid (l.trans (l.at'.disk_to dc));clear dc cW
 (try go_wp2_with fail)
 refine g.out _ _ (a5.at'.jour.cell (i:=1) rfl) (fun a=> ?_);clear g K b;have b:=a;clear a
 (try go_frame)
 refine hp 20 ?_;refine wpAnyH_done (by kernel_rfl) ?_ _;clear b
 have o:=hid (show Calm V v.last.geo.blocks.toNat 0 from by
  rw[b6.out];have k1:=k.calm.put (i:=4+u) (by have:=n.out;omega) (by have:=n.out;omega) v.d.cv f;have k2:=k1.put (i:=2+(m:Int) % 2) (by omega) (by have:=k.sup.geo.b0;omega) v.d.cv kb;exact k2.flushed)
 have em:=hid (show bp {{v with used:=u+1} with d:=V} from⟨k.sup,by show 0≤u+1;have:=n.out;omega,by show u+1≤v.last.geo.blocks-4;have:=n.out;omega,o.mono (Nat.zero_le _)⟩);go_wp2_with fail
 refine(ef.out _ _ a5.at' em.out rfl).mono ?_
 rintro e w3 ⟨rfl,j⟩;have M:=hid (a5.below j);have fo:=hid (show w.heap.size≤w3.heap.size from M.turned.size);have fb:=hid (fun x (hx:x∈V.foot i.db)=>M.at'.disk.lt x hx);have fd:=hid M.at'.jour.lt;clear j
 go_upto_region 18 with(first
  |((with_reducible refine ab 163 _ cX (some 19) ?hgd ?ho ?hd ?_);(case hgd|ho|hd=>rfl);(intro z wq Q b4 cx eN))
  |((with_reducible refine aa 163 (.tmp 19) (.tmp 106) z aF.zero.cells ((⟨v.last.gen+1,u+1,v.last.epoch,c,v.last.geo⟩:aF).cells) 163 b4 rfl aQ (cJ _) ?hgd ?ho ?hx ?hy ?_);(case hgd|ho|hx|hy=>rfl);(intro wr Br or))
  |fail)
 obtain⟨J,a8⟩:∃J,J=(⟨v.last.gen+1,u+1,(m:Int),c,v.last.geo⟩:aF):=⟨_,rfl⟩;have aA:=hid (show J=ev v c from by rw[a8];unfold ev;rw[HU.out,E.out,HM.out]);have a0:=hid a8;clear a8;have an:=hid Br;have b5:=hid (show Below w3.heap.size w3 wr from or.below (cx.mono Q) Q);have ej:=hid (show w3.heap.size≤z from Q);clear b4 Br cx or eN Q;have c2:wr.cell? ⟨z,2,none⟩=some (.int .i64 v.last.epoch):=an.cell (i:=2) rfl;have f2:=an.free 2;go_upto_region 19 with fail;obtain⟨w4,P⟩:∃w4,wr.setCell ⟨z,2,none⟩ (.int .i64 (m:Int))=w4:=⟨_,rfl⟩;have d7:=hid (show ac w4 z J.cells 163 from by rw[←P,a0.out];exact(an.set 2 _).ext rfl);have A:=hid (show aJ w w4 i v i {{v with used:=u+1} with d:=V} from by rw[←P];exact M.below (b5.setCell (p:=⟨z,2,none⟩) ej.out _));rw[P];clear P c2 f2
 go_wp2_with (first
  |((with_reducible refine aj 163 (.tmp 19) z J.cells 163 _ d7.out underlying163 rfl aQ ?hgd ?ho ?hx ?_);(case hgd|ho|hx=>rfl))
  |fail)
 refine(mK i.jb i.db (.pointer (some ⟨i.sb,0,none⟩)) V v.last J _ A.at'.disk A.at'.jour (A.at'.jour.ty.notin A.at'.disk.tyIn (by decide)) (by rw[aA.out];exact ce.out) o.up o.left (by have:=o.few;omega) (by rw[o.len];exact k.blocks) (by rw[o.len];have:=k.sup.geo.b0;omega) o.hin).mono ?_
 rintro e w5 ⟨rfl,d3,q,bd,tq,c3,c7,ds,c6⟩;have d9:=hid bd;have en:=hid tq
 have d8:=hid (show Calm d3 v.last.geo.blocks.toNat 0 from by
  rw[bd];have f1:V.cs=[]:=List.eq_nil_of_length_eq_zero (by have:=o.few;omega);have k1:=o.put (i:=J.gen % 2) (by omega) (by have:=k.sup.geo.b0;omega) V.cv q;exact k1.flushed)
 have cf:=hid (A.trans (A.at'.jdisk ds (by show J.geo=v.last.geo;rw[a0.out]) c3 c7 c6));clear bd tq c3 c7 ds c6;go_upto_region 22 with fail;refine wp_region_held_drew (S:=fun Z=>Z.cell? ⟨i.jb,1,none⟩=some (.pointer (some ⟨i.db,0,none⟩))) (by kernel_rfl) (cf.at'.jour.drew.cell (i:=1) rfl) (fun b=> ?_);obtain⟨wd,r⟩:∃wd,wd=w5.drew:=⟨_,rfl⟩;have cm:=hid (show aJ w wd i v i {{{v with used:=u+1} with d:=V} with d:=d3,last:=J} from by rw[r];exact cf.below (Below.refl _ _).drew);rw[←r];rw[←r]at b;clear r;refine hp 0 ?_;refine hp 1 ?_;refine hp 2 ?_;refine hp 6 ?_;refine hp 7 ?_;refine hp 8 ?_;refine hp 9 ?_;refine hp 10 ?_;refine wpAnyH_ready (rs:=[3]) (by kernel_rfl) (by simp) ?_;refine AllReadyH.cons rfl (fun K g=> ?_) AllReadyH.nil;go_simp
 refine(iT ep _ L.out.1).mono ?_
 rintro e w' ⟨rfl,rfl⟩
 (try go_wp2_with fail)
 refine g.out _ _ (cm.at'.jour.cell (i:=1) rfl) (fun a=> ?_);clear g K b;have b:=a;clear a
 (try go_frame)
 refine wpAnyH_ready (rs:=[4]) (by kernel_rfl) (by simp) ?_;refine AllReadyH.cons rfl (fun K g=> ?_) AllReadyH.nil;go_simp
 refine(kq _).mono ?_
 rintro e we ⟨rfl,B⟩;obtain⟨nb,be⟩:∃nb,nb=(⟨(List.replicate 4096 0).toArray⟩:ByteArray):=⟨_,rfl⟩;rw[←be];have b8:=hid be;have a6:=hid (cm.below B);have b7:=hid (fun x (hx:x∈d3.foot i.db)=>a6.at'.disk.lt x hx);clear B be
 (try go_wp2_with fail)
 refine g.out _ _ (a6.at'.jour.cell (i:=1) rfl) (fun a=> ?_);clear g K b;have b:=a;clear a
 (try go_frame)
 refine wpAnyH_ready (rs:=[5]) (by kernel_rfl) (by simp) ?_;refine AllReadyH.cons rfl (fun K g=> ?_) AllReadyH.nil;go_simp
 refine(fZ i.jb (2+ep % 2) nb _).mono ?_
 rintro e C ⟨⟨bn,bt,bx,rfl,bA,W,X,Y⟩,j⟩;have H:=hid (a6.below j);have cc:=hid bA;have ee:=hid (And.intro W (And.intro X Y));have a7:=hid j.size;clear j bA W X Y
 (try go_wp2_with fail)
 refine g.out _ _ (H.at'.jour.cell (i:=1) rfl) (fun a=> ?_);clear g K b;have b:=a;clear a
 (try go_frame)
 refine wpAnyH_ready (rs:=[11]) (by kernel_rfl) (by simp) ?_;refine AllReadyH.cons rfl (fun K g=> ?_) AllReadyH.nil;go_simp;obtain⟨wh,s⟩:∃wh,wh=C.alloc (Obj.cells #[.func (.func 187) #[] #[.pointer (some ⟨bn,0,none⟩), .pointer (some ⟨bt,0,none⟩), .pointer (some ⟨bx,0,none⟩)], .func (.func 100) #[.pointer (some ⟨i.db,0,none⟩)] #[]] 42):=⟨_,rfl⟩;rw[←s];have y:Below C.heap.size C wh:=by rw[s];exact(Below.refl _ _).alloc (Nat.le_refl _) _
 have aq:=hid (show ac wh C.heap.size [.func (.func 187) #[] #[.pointer (some ⟨bn,0,none⟩), .pointer (some ⟨bt,0,none⟩), .pointer (some ⟨bx,0,none⟩)], .func (.func 100) #[.pointer (some ⟨i.db,0,none⟩)] #[]] 42 from by rw[s];exact ac.new C _ _);have t:=hid (H.below y);have a4:=hid (cc.below y);clear y s
 (try go_wp2_with fail)
 refine g.out _ _ (t.at'.jour.cell (i:=1) rfl) (fun a=> ?_);clear g K b;have b:=a;clear a
 (try go_frame)
 refine wpAnyH_ready (rs:=[12]) (by kernel_rfl) (by simp) ?_;refine AllReadyH.cons rfl (fun K g=> ?_) AllReadyH.nil;go_simp
 refine(xy i.jb i.db C.heap.size 2 v.last.geo.blocks.toNat 0 bn bt bx (2+ep % 2) nb 42 d3 _ t.at'.disk aq.out (t.at'.jour.cell (i:=1) rfl) t.at'.jour.lt a4.out (by
  intro x hx O;have ex:=b7.out x O;have h1:=ee.out;have h3:=a7.out
  rcases hx with rfl|rfl|rfl|rfl|rfl
  ·omega
  ·exact(t.at'.jour.ty.notin t.at'.disk.tyIn (by decide)) O
  all_goals omega) d8.out (by decide) k.blocks ⟨by have:=L.out.1;omega,by have:=k.sup.geo.b0;omega⟩ (by rw[b8.out];simp[ByteArray.size])).mono ?_
 rintro e w6 ⟨rfl,d4,c1,dg⟩;have ea:=hid c1;have cg:=hid (t.trans (t.at'.disk_to dg));clear dg c1
 (try go_wp2_with fail)
 refine g.out _ _ (cg.at'.jour.cell (i:=1) rfl) (fun a=> ?_);clear g K b;have b:=a;clear a
 (try go_frame)
 refine hp 13 ?_;refine wpAnyH_done (by kernel_rfl) ?_ _;clear b;go_wp2_with fail;go_ret2
 have et:d4=ff v f kb q nb:=by
  have hg:J.gen=v.last.gen+1:=by rw[a0.out]
  rw[ea.out,d9.out,hg,b6.out];unfold ff;rw[HU.out,E.out,HM.out]
  rfl
 have hT:=cg.out;rw[et,aA.out]at hT;refine⟨rfl,kb,q,nb, ?_, ?_,b8.out,hT⟩
 ·rw[HM.out];exact ci.out
 ·rw[←aA.out];exact en.out
theorem df {w:World} {k:TypeId} {R:Value→Option (DataW Unit×List MemPlace)} {b n:Nat} {D:DataW Unit} {t:TypeId} (h:w.ownsMap prog k R b n D) (e:Ty w b t):False:=by
 obtain⟨_,_,c⟩:=e;obtain⟨f,a,d,_⟩:=h;rw[d]at c
 cases c
theorem al.notype {w:World} {i:ap} {v:ai} {b:Nat} {t:TypeId} (h:al w i v) (hb:Ty w b t) (k:t∉[104,165,242,238,193,188,78,9,109,130,61]):b∉i.foot v.d:=by
 intro c;simp only[List.mem_cons,List.not_mem_nil,or_false,not_or]at k;obtain⟨o,p,q,r,s,m,x,y,z,f,j⟩:=k;simp only[ap.foot,List.mem_append,List.mem_cons,List.not_mem_nil,or_false,Option.mem_toList,Option.mem_def]at c
 rcases c with(rfl|rfl|rfl|rfl|rfl|rfl|rfl|rfl|rfl|rfl)|c|c|c
 ·exact o (hb.eq h.vol.ty)
 ·exact p (hb.eq h.jour.ty)
 ·exact q (hb.eq h.space.ty)
 ·exact r (hb.eq h.index.ty)
 ·exact s (hb.eq h.book.ty)
 ·exact m (hb.eq h.bclock.ty)
 ·exact m (hb.eq h.clock.ty)
 ·exact df h.maps.u hb
 ·exact df h.maps.l hb
 ·exact df h.maps.g hb
 ·obtain⟨A,a,e⟩:=h.disk.tyIn b c
  have n:=hb.eq e;subst n;simp only[List.mem_cons,List.not_mem_nil,or_false]at a
  rcases a with a|a|a
  ·exact x a
  ·exact y a
  ·exact z a
 ·exact f (hb.eq (aN h.vers c))
 ·exact j (hb.eq (aN h.sealed c))
theorem al.away {w f:World} {i:ap} {v:ai} {S:List Nat} (h:al w i v) (t:af S w f) (b:∀x,x∈i.foot v.d→x∉S):al f i v:=by
 have a:∀x,x∈[i.vb,i.jb,i.sb,i.xb,i.bb,i.c2,i.cb,i.m1,i.m2,i.m3]→x∉S:=fun x e=>b x (by unfold ap.foot;exact List.mem_append_left _ e)
 exact⟨t.blk h.vol (a _ (by simp)),t.blk h.jour (a _ (by simp)),t.blk h.space (a _ (by simp)),h.disk.turned t (fun x e=>b x (by unfold ap.foot;exact List.mem_append_right _ (List.mem_append_left _ e))),t.blk h.index (a _ (by simp)),
  ay h.vers t (fun k c=>b k (by simp only[ap.foot,List.mem_append,Option.mem_toList,Option.mem_def];exact .inr (.inr (.inl c)))),ay h.sealed t (fun k c=>b k (by simp only[ap.foot,List.mem_append,Option.mem_toList,Option.mem_def];exact .inr (.inr (.inr c)))),
  t.blk h.book (a _ (by simp)),t.blk h.bclock (a _ (by simp)),t.blk h.clock (a _ (by simp)),h.maps.turned t (by rintro x (rfl|rfl|rfl)<;>exact a _ (by simp)),h.two,h.rp⟩
theorem aJ.away {w f g:World} {i c:ap} {v v':ai} {b:Nat} (h:aJ w f i v c v') (t:af [b] f g) (hb:b∉c.foot v'.d) (j:w.heap.size≤b):aJ w g i v c v':=
 ⟨h.at'.away t (fun x a e=>hb (by simp at e;subst e;exact a)),h.turned.on t (fun x a=>by simp at a;subst a;exact .inr j),h.foot⟩
end Go.Proofs.YtadooplpfhdhcaaGreat
