/- Data that are hidden (chapter 6): Count, Stream from the first byte. Data that are hidden (chapter 6): Xor's closures. Data that are hidden (chapter 6): Xor. Blocks of the data (chapter 12): what a cell is; Check of one that may be. -/
import Derived.Test.YtadooplpfhdhcaaGreatQ16
import Derived.Test.YtadooplpfhdhcaaGreatQ7
import Derived.OrdersHeld
import Derived.Carry
import Derived.Test.YtadooplpfhdhcaaGreatQ11
import Derived.Test.YtadooplpfhdhcaaGreatQ9
import Derived.Test.YtadooplpfhdhcaaGreatQ12
import Derived.Test.YtadooplpfhdhcaaGreatQ8
import Derived.StillTailTactics
set_option linter.unusedSimpArgs false
set_option linter.unusedVariables false
set_option maxRecDepth 100000
set_option maxHeartbeats 4000000
namespace Go.Proofs.YtadooplpfhdhcaaGreat
open Go Go.RowKit
open Go.Lib (hid)
open Go.Proofs.Tryz
def kW (e s i:Nat):List UInt8:=da [1,3,4,4,4] [117,0,(e:Int),(s:Int),(i:Int)]
theorem xB (e s i:Nat):(kW e s i).length=16:=by simp[kW,da,beBytes_length]
def gZ (W:List UInt8) (e s:Nat) (m:Nat):List UInt8:=(List.range m).flatMap fun i=>ga W (kW e s i) 10
theorem pj (W:List UInt8) (e s m:Nat):gZ W e s (m+1)=gZ W e s m++ga W (kW e s m) 10:=by simp[gZ,List.range_succ]
theorem iF (W:List UInt8) (e s:Nat):∀m,(gZ W e s m).length=16*m
 |0=>rfl
 |m+1=>by rw[pj,List.length_append,iF W e s m,mh];omega
def dZ (key:List UInt8) (e s n:Nat):List UInt8:=(gZ (kt key) e s ((n+15)/16)).take n
theorem uW (key:List UInt8) (e s n:Nat):(dZ key e s n).length=n:=by unfold dZ;rw[List.length_take,iF];omega
theorem JD (e s i:Nat) (d:e<4294967296) (g:s<4294967296) (f:i<4294967296):kh [1,3,4,4,4] [117,0,(e:Int),(s:Int),(i:Int)]:=⟨rfl,fun j a x b c=>by
 rcases j with _|_|_|_|_|j
 ·simp at b c;subst b c;decide
 ·simp at b c;subst b c;decide
 ·simp at b c;subst b c;simp;omega
 ·simp at b c;subst b c;simp;omega
 ·simp at b c;subst b c;simp;omega
 ·simp at b⟩
theorem yZ:(prog.info? 3).map (fun i=>(i.zero,i.size,i.bytes))=some (some (.int .i64 0),1,8):=by kernel_rfl
theorem count_walk (e s i:Nat) (w:World) (l:e<4294967296) (n:s<4294967296) (m:i<4294967296):
  Calls prog 230 #[.int .i64 (e:Int), .int .i64 (s:Int), .int .i64 (i:Int)] w fun x w'=>(∃r,x= .returned (.tuple #[.string r, .int .i64 0])∧ah r (kW e s i))∧Below w.heap.size w w':=by
 go_enter func230,ntmps230
 go_wp2_with (first
  |((with_reducible refine bi 34 3 5 ?parts8 [.int .i64 1, .int .i64 3, .int .i64 4, .int .i64 4, .int .i64 4] (.int .i64 0) 1 8 (some 8) underlying34 yZ (by omega) (by omega) ?hgd ?ho ?hd ?hf ?_);(case hgd|ho|hd=>rfl);(case hf=>kernel_rfl);(intro p u o g j y))
  |((with_reducible refine bi 34 3 5 ?parts12 [.int .i64 117, .int .i64 0, .int .i64 (e:Int), .int .i64 (s:Int), .int .i64 (i:Int)] (.int .i64 0) 1 8 (some 12) underlying34 yZ (by omega) (by omega) ?hgd ?ho ?hd ?hf ?_);(case hgd|ho|hd=>rfl);(case hf=>kernel_rfl);(intro q w2 t h f z))
  |fail)
 have a:Below w.heap.size w w2:=(j.mono o).trans (f.mono (by omega))
 refine(fc _ _ [1,3,4,4,4] [117,0,(e:Int),(s:Int),(i:Int)] _ (bC.blk (xs:=[1,3,4,4,4]) (g.below f (by omega)) rfl 5) (bC.blk (xs:=[117,0,(e:Int),(s:Int),(i:Int)]) h rfl 5) (by simp) (by simp) (JD e s i l n m)).mono ?_
 rintro x v ⟨r,rfl,k,b⟩;have c:=hid (a.trans (b.mono a.size));have d:=hid k;clear g h j f a b k;go_wp2_with fail;go_ret2;exact⟨⟨r,rfl,d.out⟩,c.out⟩
structure JE (key W:List UInt8):Prop where
 e:kt key=W
 l:W.length=176
structure Ep (e s:Nat):Prop where
 e:e<4294967296
 s:s<4294967296
theorem A4 (key:ByteArray) (e s n:Nat) (w:World) (hk:key.size=16) (he:e<4294967296) (hs:s<4294967296) (hn:n≤4096):
  Calls prog 154 #[.string key, .int .i64 (e:Int), .int .i64 (s:Int), .int .i64 0, .int .i64 (n:Int)] w fun x w'=>(∃r,x= .returned (.tuple #[.string r, .int .i64 0])∧ah r (dZ key.data.toList e s n))∧Below w.heap.size w w':=by
 have b8:(key.size:Int)=16:=by omega
 obtain⟨m,N⟩:∃m,Hid (m=(n+15)/16):=⟨_,(rfl:(n+15)/16=(n+15)/16)⟩;obtain⟨ni,d⟩:∃ni:Int,Hid (ni=(n:Int)):=⟨_,(rfl:(n:Int)=(n:Int))⟩;have ce:0≤ni:=by have:=d.out;omega
 have cf:ni≤4096:=by have:=d.out;omega
 rw[←d.out];have a9:=hid (show m≤4096 by have:=N.out;omega);have HK:=hid hk;have M:Ep e s:=⟨he,hs⟩;obtain⟨W,C⟩:∃W,JE key.data.toList W:=⟨_,rfl,iy _⟩;have a5:=hid (fun(wx:World)=>(show Calls prog 230 #[.int .i64 (e:Int), .int .i64 (s:Int), .int .i64 0] wx fun x w'=>(∃r,x= .returned (.tuple #[.string r, .int .i64 0])∧ah r (kW e s 0))∧Below wx.heap.size wx w' from count_walk e s 0 wx he hs (by decide)));have b4:=hid hn;clear hk he hs hn;go_enter func154,ntmps154
 go_wp2_with (first
  |((with_reducible refine ab 149 _ kN (some 12) ?hgd ?ho ?hd ?_);(case hgd|ho|hd=>rfl);(intro b w1 l1 B1 e1 z1))
  |fail)
 have HL:=hid l1;have aA:=hid (lk.of (gU.new B1));have J:=hid z1;have p:=hid (e1.mono l1);clear B1 e1 z1 l1
 refine(a5.out _).mono ?_
 rintro x w2 ⟨⟨c0,rfl,_⟩,h⟩;have a0:=hid (aA.below h);have v:=hid (Nat.lt_of_lt_of_le J.out h.size);have q:=hid (p.trans (h.mono p.size));clear h;go_wp2_with fail
 refine(A2 key _ HK.out).mono ?_
 rintro x w3 ⟨⟨cb,rfl,E,Y⟩,j⟩;rw[C.e]at E;have a6:=hid E;have a1:=hid (a0.below j);have y:=hid (show b<w3.heap.size∧b<cb from⟨Nat.lt_of_lt_of_le v.out j.size,Nat.lt_of_lt_of_le v.out Y⟩);have F:=hid (q.trans (j.mono q.size));clear E Y j;have hm:(ni+16-1)/16=(m:Int):=by have:=N.out;have:=d.out;omega
 have cc:(ni+15)/16=(m:Int):=by have:=N.out;have:=d.out;omega
 go_wp2_with fail
 (try rw[hm])
 go_loopw [70] (fun i wr=>∃k:Nat,k≤m∧i= .int .i64 k∧lk wr b (gZ W e s k)∧ac wr cb (dl W) 334∧b<wr.heap.size∧Below w.heap.size w wr) (fun i _=>m-(intOf i).toNat)
 case atStart=>exact⟨0,Nat.zero_le _,rfl,a1.out,a6.out,y.out.1,F.out⟩
 case round=>
  obtain⟨k,b7,rfl,hB,E,V,U⟩:=hrel;have HB:=hid hB;have HC:=hid E;have I:=hid V;have A:=hid U;clear hB E V U
  by_cases b9:k<m
  ·have bx:(k:Int)<(m:Int):=by omega
   have b6:k≤4096:=by have:=a9.out;omega
   go_wp2_with fail
   refine(count_walk e s k _ M.e M.s (by omega)).mono ?_
   rintro x wa ⟨⟨c,rfl,tc⟩,f⟩;have P:=hid tc;have a2:=hid (HB.below f);have B:=hid (HC.below f HC.lt);have K:=hid (Nat.lt_of_lt_of_le I.out f.size);have t:=hid (A.trans (f.mono A.size));clear tc f;go_wp2_with fail
   refine(yY cb W c _ B.out C.l (by rw[P.size,xB])).mono ?_
   rintro x wb ⟨⟨r,rfl,tr⟩,g⟩;have Q:=hid (show ah r (ga W (kW e s k) 10)from by rw[←(show c.data.toList=kW e s k from P.out)];exact tr);have a3:=hid (a2.below g);have a7:=hid (B.below g B.lt);have z:=hid (Nat.lt_of_lt_of_le K.out g.size);have G:=hid (t.trans (g.mono t.size));clear tr g;go_wp2_with fail
   refine(sj b _ r _ a3.out (by rw[iF,Q.size,mh];omega) (Nat.le_of_lt z.out)).mono ?_
   rintro x wc ⟨rfl,S,D,X⟩;have a4:=hid (show lk wc b (gZ W e s (k+1))from by rw[pj,←(show r.data.toList= _ from Q.out)];exact S);have a8:=hid (Iq X a7.out (by have:=y.out;omega) (by decide));have L:=hid (Nat.lt_of_lt_of_le z.out D.size);have H:=hid (G.trans (D.mono HL.out));clear S D X;go_wp2_with fail;go_roundw
   case rel=>exact⟨k+1,by omega,by go_num,a4.out,a8.out,L.out,H.out⟩
   case measure=>simp[intOf];omega
  ·obtain rfl:k=m:=by omega
   go_wp2_with fail
   refine(A3 b _ _ HB.out (Nat.le_of_lt I.out)).mono ?_
   rintro x wd ⟨rfl,T⟩;have u:=hid (A.trans (T.mono HL.out));clear T;obtain⟨R,o⟩:∃a:ByteArray,Hid (a=⟨(gZ W e s k).toArray⟩):=⟨_,rfl⟩;rw[←o.out];have O:=hid (show ah R (gZ W e s k)from by rw[o.out];exact ah.mk _);have cg:(ni:Int)≤(R.size:Int):=by rw[O.size,iF];have:=N.out;have:=d.out;omega
   by_cases h0:ni=0
   ·obtain rfl:=h0
    go_wp2_with fail;go_ret2;have Z:n=0:=by have:=d.out;omega
    exact⟨⟨_,rfl,by subst Z;rfl⟩,u.out⟩
   ·have b5:(ni==0)=false:=beq_eq_false_iff_ne.2 h0
    go_wp2_with fail;go_ret2;refine⟨⟨_,rfl, ?_⟩,u.out⟩;have ad:ni.toNat=n:=by have:=d.out;omega
    have ht:=O.extract 0 n;rw[List.drop_zero]at ht;unfold dZ;rw[C.e,←N.out]
    first|exact ht|(rw[ad];exact ht)|(simp only[ad];exact ht)
def dO (a s:List UInt8):List UInt8:=(List.range a.length).map fun i=>a.getD i 0^^^s.getD i 0
theorem fe (a s:List UInt8):(dO a s).length=a.length:=by simp[dO]
theorem JF (a s:List UInt8):bS (fun i=>a.getD i 0^^^s.getD i 0) a a.length=dO a s:=jV _ _ _ rfl
theorem vW (a s:List UInt8):dO (dO a s) s=a:=by
 apply List.ext_getElem?
 intro j
 by_cases b:j<a.length
 ·have c:(dO a s).getD j 0=a.getD j 0^^^s.getD j 0:=by
   unfold dO;rw[List.getD,List.getElem?_map,List.getElem?_range b];rfl
  have d:(dO (dO a s) s)[j]?=some ((dO a s).getD j 0^^^s.getD j 0):=by
   rw[show dO (dO a s) s=(List.range (dO a s).length).map fun i=>(dO a s).getD i 0^^^s.getD i 0 from rfl,fe,List.getElem?_map,List.getElem?_range b];rfl
  rw[d,c,UInt8.xor_assoc,UInt8.xor_self,UInt8.xor_zero,List.getD,List.getElem?_eq_getElem b]
  rfl
 ·rw[List.getElem?_eq_none (by rw[fe,fe];omega),List.getElem?_eq_none (by omega)]
theorem Fj (a s:ByteArray) (f g:Nat) (k:Nat) (l:k<a.size) (b:k<s.size) (w:World) (h:ac w f [.string a] 9) (hb:ac w g [.string s] 9):
  Calls prog 156 #[.int .i64 (k:Int), .pointer (some ⟨f,0,none⟩), .pointer (some ⟨g,0,none⟩)] w fun e m=>e= .returned (.int .u8 (((a.data.toList.getD k 0^^^s.data.toList.getD k 0).toNat:Nat):Int))∧m=w.drew:=by
 have n:=h.cell (i:=0) rfl;have o:=hb.cell (i:=0) rfl;have p:(0:Int)≤(k:Int):=by omega
 have q:(k:Int)<a.size:=by omega
 have r:(k:Int)<s.size:=by omega
 have c:a.data.toList.getD k 0=a[k]:=by
  have b:k<a.data.toList.length:=l;rw[List.getD,List.getElem?_eq_getElem b]
  rfl
 have d:s.data.toList.getD k 0=s[k]:=by
  have b:k<s.data.toList.length:=b;rw[List.getD,List.getElem?_eq_getElem b]
  rfl
 have j:Hid (bits BinOp.xor IntKind.u8 ((a[k].toNat:Nat):Int) ((s[k].toNat:Nat):Int)=(((a[k]^^^s[k]).toNat:Nat):Int)):=mi _ _;go_enter func156,ntmps156;go_wp2_with fail;refine aB (by kernel_rfl) (by kernel_rfl) ?_
 iterate 8 still_step
 refine wpStill_nil ?_;go_wp2_with fail;go_ret;refine⟨?_,rfl⟩;rw[c,d,←j.out]
 rfl
theorem Fo (o r t g q n:Nat) (a s:ByteArray) (z:List Value) (w:World) (hn:a.size=n) (Z:n≤s.size) (Y:n≤65536) (v:w.cell? ⟨o,0,none⟩=some (.slice (some ⟨g,0,none⟩) n q)) (J:ac w r [.string a] 9) (hb:ac w t [.string s] 9)
  (G:Row w g (bytesV a.data.toList++z) 5) (E:g≠o) (C:g≠r) (D:g≠t) (A:o<w.heap.size):
  Calls prog 155 #[.func (.func 156) #[] #[.pointer (some ⟨r,0,none⟩), .pointer (some ⟨t,0,none⟩)], .pointer (some ⟨o,0,none⟩)] w fun e w'=>e= .returned (.tuple #[])∧Row w' g (bytesV (dO a.data.toList s.data.toList)++z) 5∧Kept g w w':=by
 obtain⟨f,W⟩:∃f:Nat→UInt8,f=fun i=>a.data.toList.getD i 0^^^s.data.toList.getD i 0:=⟨_,rfl⟩
 have y:a.data.toList.length=n:=hn;have T:=hid W;have U:=hid (And.intro hn Z);have l:=hid y;have O:=hid G;have L:=hid J;have M:=hid hb;have N:=hid A;have m:=hid (And.intro E (And.intro C D));clear W hn Z y G J hb E C D A;go_enter func155,ntmps155;go_wp2_with fail;have P:=hid v;clear v;go_loopw [6] (fun i wr=>∃k:Nat,k≤n∧i= .int .i64 k∧Row wr g (bytesV (bS f a.data.toList k)++z) 5∧Kept g w wr) (fun i _=>n-(intOf i).toNat)
 case atStart=>exact⟨0,Nat.zero_le _,rfl,by rw[jo];exact O.out,Kept.refl _ _⟩
 case round=>
  obtain⟨k,hk,rfl,G,j⟩:=hrel;have H:=hid G;have x:=hid j;have HA:=hid (j.blk L.out (by exact fun e=>m.out.2.1 e.symm));have HB:=hid (j.blk M.out (by exact fun e=>m.out.2.2 e.symm))
  have v:wr.cell? ⟨o,0,none⟩=some (.slice (some ⟨g,0,none⟩) n q):=by
   rw[←P.out];have hl:o<w.heap.size:=N.out;simp only[World.cell?,j.block o hl (fun e=>m.out.1 e.symm)]
  clear G j
  by_cases R:k<n
  ·have F:(k:Int)<(n:Int):=by omega
   have X:(k:Int)≤65536:=by omega
   obtain⟨u,V⟩:∃u:UInt8,Hid (f k=u):=⟨_,(rfl:f k=f k)⟩
   have HX:Hid (∀p,ac p r [.string a] 9→ac p t [.string s] 9→Calls prog 156 #[.int .i64 (k:Int), .pointer (some ⟨r,0,none⟩), .pointer (some ⟨t,0,none⟩)] p fun e w'=>e= .returned (.int .u8 ((u.toNat:Nat):Int))∧w'=p.drew):=hid (fun p J hb=>by
    have h:=Fj a s r t k (by have:=U.out;omega) (by have:=U.out;omega) p J hb;rw[←V.out,T.out];exact h)
   go_wp2_with fail;refine wp_region_held_drew (S:=fun p=>p.cell? ⟨o,0,none⟩=some (.slice (some ⟨g,0,none⟩) n q)) (by kernel_rfl) (v) (fun d=> ?_);refine hp 0 ?_;refine hp 1 ?_;refine hp 2 ?_;refine hp 3 ?_;refine wpAnyH_ready (rs:=[4]) (by kernel_rfl) (by simp) ?_;refine AllReadyH.cons rfl (fun K I=> ?_) AllReadyH.nil;go_simp
   refine(HX.out _ HA.drew HB.drew).mono ?_
   rintro e w' ⟨rfl,rfl⟩
   (try go_wp2_with fail)
   refine I.out _ _ (v) (fun b=> ?_);clear I K d;have d:=b;clear b
   (try go_frame)
   have a1:(k:Int)<(n:Int):=F;refine hp 5 ?_;have a2:(bS f a.data.toList k).length=n:=by rw[im _ _ _ (by rw[l.out];exact hk)];exact l.out
   have Q:(wr.drew.drew).cell? ⟨g,k,none⟩=some (.int .u8 ((((bS f a.data.toList k)[k]'(by omega)).toNat:Nat):Int)):=by
    refine H.drew.drew.cell ?_;rw[List.getElem?_append_left (by rw[ax];omega),eB _ _ (by omega)]
   have aA:(wr.drew.drew).frozen? ⟨g,k,none⟩=false:=H.drew.drew.free (by rw[List.length_append,ax];omega);obtain⟨c,B⟩:∃c:UInt8,c=(bS f a.data.toList k)[k]'(by omega):=⟨_,rfl⟩;rw[←B]at Q;clear B;refine wpAnyH_ready (rs:=[6]) (by kernel_rfl) (by simp) ?_;refine AllReadyH.cons rfl (fun K I=> ?_) AllReadyH.nil;go_simp;refine I.out _ _ (by rw[←v];exact World.cell?_setCell_other _ _ _ _ (by intro e;injection e with e1;exact m.out.1 e1)) (fun b=> ?_)
   (try go_frame)
   refine wpAnyH_done (by kernel_rfl) ?_ _;go_wp2_with fail;go_roundw
   case rel=>
    refine⟨k+1,by omega,by go_num, ?_,(x.drew.drew.setCell _ _)⟩
    refine(H.drew.drew.set k _).ext ?_
    rw[List.set_append_left _ _ (by rw[ax];omega),cU];have bA:=jU f a.data.toList k (by rw[l.out];exact R);rw[←bA,V.out]
   case measure=>simp[intOf];omega
  ·obtain rfl:k=n:=by omega
   go_wp2_with fail;go_end0;refine⟨rfl,H.ext ?_,x.out⟩;rw[T.out,←l.out,JF]
theorem Dn (w:World):Sem.run prog (zeroValue 147) w= .ok (.slice none 0 0) w:=by kernel_rfl
theorem Ir (w:World):Sem.run prog (zeroValue 9) w= .ok (.string ⟨#[]⟩) w:=by kernel_rfl
theorem nw (key a:ByteArray) (e s:Nat) (w:World) (hk:key.size=16) (he:e<4294967296) (hs:s<4294967296) (hn:a.size≤4096):
  Calls prog 76 #[.string key, .int .i64 (e:Int), .int .i64 (s:Int), .string a] w fun x w'=>(∃r,x= .returned (.tuple #[.string r, .int .i64 0])∧ah r (dO a.data.toList (dZ key.data.toList e s a.size)))∧Below w.heap.size w w':=by
 have bs:∀(fn:Fn) (first c:Array Value) (w:World),(Instr.makeFunc fn first c).run prog w= .ok (.func fn first c) w:=fun _ _ _ _=>rfl
 obtain⟨n,G⟩:∃n,Hid (a.size=n):=⟨_,(rfl:a.size=a.size)⟩;have Z:(a.size:Int)=(n:Int):=by have:=G.out;omega
 have bt:(n:Int)≤4096:=by omega
 have U:=hid (fun(wx:World)=>A4 key e s n wx hk he hs (by omega));have R:=hid (show n≤4096 by omega);clear hk he hs hn;rw[G.out];go_enter func76,ntmps76
 go_wp2_with (first
  |((with_reducible refine aO 9 (.tmp 3) (.string a) rfl (some 7) ?hgd ?ho ?hd ?hx ?_);(case hgd|ho|hd|hx=>rfl);(intro v w1 l1 N e1 z1;have q0:=N.cell (i:=0) rfl))
  |fail)
 have C:=hid N;have m:=hid (e1.mono l1);have be:=hid l1;clear N e1 z1 l1
 (try rw[Z])
 refine(U.out _).mono ?_
 rintro x w2 ⟨⟨B,rfl,ts⟩,y⟩;have F:=hid ts;have l:=hid (C.below y C.lt);have f:=hid (m.trans (y.mono m.size));have a0:=l.cell (i:=0) rfl;clear y ts q0
 go_upto_region 6 with(first
  |((with_reducible refine cd 9 (.string ⟨#[]⟩) Ir rfl (some 10) ?hgd ?ho ?hd ?_);(case hgd|ho|hd=>rfl);(intro b2 w3 J K Y z3;have O:=hid (l.out.below Y (Nat.lt_of_lt_of_le l.out.lt J));have c3:w3.cell? ⟨b2,0,none⟩=some (.string ⟨#[]⟩):=K.cell rfl;have f3:w3.frozen? ⟨b2,0,none⟩=false:=K.free 0))
  |fail)
 have A:v≠b2:=by have:=l.lt;omega
 have bl:=hid A;obtain⟨w4,k⟩:∃w4,w3.setCell ⟨b2,0,none⟩ (.string B)=w4:=⟨_,rfl⟩;have t:=hid (show ac w4 v [.string a] 9 from by rw[←k];exact O.set_other (by show v≠b2;exact A) _);have E:=hid (show ac w4 b2 [.string B] 9 from by rw[←k];exact(K.set 0 _).ext rfl);have b:=hid (show Below w.heap.size w w4 from by rw[←k];exact(f.trans (Y.mono (Nat.le_trans f.size J))).setCell (p:=⟨b2,0,none⟩) (Nat.le_trans f.size J) _);have bk:=hid (show w.heap.size≤b2 from Nat.le_trans f.size J);rw[k];clear k a0 K Y z3 J c3 f3 A;have q0:=t.cell (i:=0) rfl
 go_upto_region 7 with(first
  |((with_reducible refine mT 9 147 5 (.tmp 29) a (some 30) underlying9 underlying147 underlying5 ?hgd ?ho ?hd ?hx ?_);(case hgd|ho|hd|hx=>rfl);(intro g c z w5 l5 B5 M z5 I);(rw[G.out]))
  |((with_reducible refine cd 147 (.slice none 0 0) Dn rfl (some 12) ?hgd ?ho ?hd ?_);(case hgd|ho|hd=>rfl);(intro j w6 l6 L H z6);(have cv:w6.cell? ⟨j,0,none⟩=some (.slice none 0 0):=L.cell rfl);(have fv:w6.frozen? ⟨j,0,none⟩=false:=L.free 0))
  |fail)
 have W:=t.lt;have X:=E.lt;have q:=(b.trans (M.mono (Nat.le_trans b.size l5))).trans (H.mono (Nat.le_trans (Nat.le_trans b.size l5) (by omega)));obtain⟨w7,d⟩:∃w7,w6.setCell ⟨j,0,none⟩ (.slice (some ⟨g,0,none⟩) n c)=w7:=⟨_,rfl⟩;have Q:=hid (show Row w7 g (bytesV a.data.toList++z) 5 from by rw[←d];exact(B5.below H (by omega)).set_other (by show g≠j;omega) _);have u:=hid (show ac w7 j [.slice (some ⟨g,0,none⟩) n c] 147 from by rw[←d];exact(L.set 0 _).ext rfl);have P:=hid (show ac w7 v [.string a] 9 from by rw[←d];exact((t.below M (by omega)).below H (by omega)).set_other (by show v≠j;omega) _);have T:=hid (show ac w7 b2 [.string B] 9 from by rw[←d];exact((E.below M (by omega)).below H (by omega)).set_other (by show b2≠j;omega) _);have o:=hid (show Below w.heap.size w w7 from by rw[←d];exact q.setCell (p:=⟨j,0,none⟩) (by have:=b.size;show w.heap.size≤j;omega) _);have h:=hid (show w.heap.size≤g∧g≠j∧g≠v∧g≠b2 from by have:=b.size;omega);rw[d];clear d B5 L M H z5 z6 l5 l6 cv fv q0 q W X I;go_wp2_with fail
 refine(Fo j v b2 g c n a B z _ G.out (by rw[F.size,uW];exact Nat.le_refl _) (by have:=R.out;omega) (u.cell (i:=0) rfl) P.out T.out Q.out h.out.2.1 h.out.2.2.1 h.out.2.2.2 u.lt).mono ?_
 rintro x w8 ⟨rfl,R8,k8⟩;have cv:=(k8.blk u.out (fun e=>h.out.2.1 e.symm)).cell (i:=0) rfl;have S:=hid R8;have D:=hid (k8.below o.out h.out.1 o.size);have V:=hid (show n=(dO a.data.toList B.data.toList).length from by rw[fe];exact G.symm);clear R8 k8
 go_wp2_with (first
  |((with_reducible refine dw 147 9 5 (.tmp 35) (dO a.data.toList B.data.toList) g 0 n c (some 36) underlying147 underlying5 underlying9 S.out.range V.out ?hgd ?ho ?hd ?hx ?_);(case hgd|ho|hd|hx=>rfl))
  |fail)
 go_ret2;refine⟨⟨_,rfl,(ah.mk _).cast ?_⟩,D.out⟩;rw[show B.data.toList= _ from F.out]
structure ak where
 epoch:Int
 slot:Int
 lba:Int
 gone:Bool
 cipher:ByteArray
def ak.cells (c:ak):List Value:=[.int .i64 c.epoch, .int .i64 c.slot, .int .i64 c.lba, .bool c.gone, .string c.cipher]
structure bh (c:ak):Prop where
 e0:0≤c.epoch
 e1:c.epoch≤4294967295
 s0:0≤c.slot
 s1:c.slot≤4294967295
 l0:0≤c.lba
 l1:c.lba≤4095
 n:c.cipher.size≤4000
 g:c.gone=true→c.cipher=⟨#[]⟩
theorem dy (n m:Int) (w:World) (a:0≤n) (b:n≤m):
  Calls prog 233 #[.int .i64 n, .int .i64 m] w fun e w'=>e= .returned (.bool true)∧w=w':=by
 go_enter func233,ntmps233;go_wp2_with fail;go_ret
 first|exact⟨rfl,rfl⟩|exact⟨dX (by simp;omega),rfl⟩|exact⟨dX (by simp),rfl⟩
theorem aX {c:ak}:(prog.info? 134).map (·.size)=some c.cells.length:=by kernel_rfl
theorem sk (c:ak) (w:World) (hc:bh c) (d:c.gone=false):
  Calls prog 157 #[.agg c.cells.toArray] w fun e w'=>e= .returned (.int .i64 0)∧Below w.heap.size w w':=by
 have hn:(c.cipher.size:Int)≤4000:=by have:=hc.n;omega
 have a:=hid hc;have f:=hid d;clear hc d;go_enter func157,ntmps157
 go_wp2_with (first
  |((with_reducible refine ae 134 (.tmp 0) c.cells (some 1) ?hgd ?ho ?hd ?hx ?_);(case hgd|ho|hd|hx=>rfl);(intro k q h b g r;have l:=b.cell (i:=0) rfl;have m:=b.cell (i:=1) rfl;have o:=b.cell (i:=2) rfl;have j:=b.cell (i:=3) rfl;have p:=b.cell (i:=4) rfl;rw[f.out]at j))
  |fail)
 refine(dy c.epoch 4294967295 _ a.e0 a.e1).mono ?_
 rintro e w' ⟨rfl,rfl⟩;go_wp2_with fail
 refine(dy c.slot 4294967295 _ a.s0 a.s1).mono ?_
 rintro e w' ⟨rfl,rfl⟩;go_wp2_with fail
 refine(dy c.lba 4095 _ a.l0 a.l1).mono ?_
 rintro e w' ⟨rfl,rfl⟩;go_wp2_with fail;go_ret;exact⟨rfl,g.mono h⟩
theorem jX (w:World):
  Calls prog 158 #[] w fun e w'=>(∃g,e= .returned (.slice (some ⟨g,0,none⟩) 4 4)∧ac w' g [.int .i64 1, .int .i64 4, .int .i64 4, .int .i64 4] 3∧w.heap.size≤g)∧Below w.heap.size w w':=by
 have f:(prog.info? 3).map (fun i=>(i.zero,i.size,i.bytes))=some (some (.int .i64 0),1,8):=by kernel_rfl
 go_enter func158,ntmps158
 go_wp2_with (first
  |((with_reducible refine bi 34 3 4 ?parts [.int .i64 1, .int .i64 4, .int .i64 4, .int .i64 4] (.int .i64 0) 1 8 (some 1) underlying34 f (by omega) (by omega) ?hgd ?ho ?hd ?hf ?_);(case hgd|ho|hd=>rfl);(case hf=>kernel_rfl);(intro d h a b c j))
  |fail)
 go_ret;exact⟨⟨d,rfl,b,a⟩,c.mono a⟩
def bF (c:ak):Int:=if c.gone=true then 2 else 1
def dp (c:ak):List Int:=[bF c,c.epoch,c.slot,c.lba]
def dd (c:ak):List UInt8:=da [1,4,4,4] (dp c)
def cellL (c:ak):List UInt8:=fa (dd c++cq c.cipher.data.toList) 4096
def holdL (s:List UInt8):List UInt8:=fa ([3]++cq s) 4096
theorem kM (c:ak):bF c=1∨bF c=2:=by unfold bF;split<;>simp
theorem cS (c:ak):(dd c).length=13:=by simp[dd,dp,da,beBytes_length]
theorem Fp (c:ak) (h:c.cipher.size≤4000):(dd c++cq c.cipher.data.toList).length≤4017:=by
 rw[List.length_append,cS,ch,show c.cipher.data.toList.length=c.cipher.size from rfl];omega
theorem fm (c:ak) (h:c.cipher.size≤4000):(cellL c).length=4096:=kg (by have:=Fp c h;omega)
theorem gh (s:List UInt8) (h:s.length≤4000):(holdL s).length=4096:=kg (by rw[List.length_append,ch];simp;omega)
theorem Fq {c:ak} (h:bh c):kh [1,4,4,4] (dp c):=by
 obtain⟨f,g,l,m,j,k,_,_⟩:=h;have e:=kM c;refine⟨rfl,fun i a x b d=> ?_⟩
 rcases i with _|_|_|_|i
 ·simp[dp]at b d;subst b d
  rcases e with h|h<;>rw[h]<;>decide
 ·simp[dp]at b d;subst b d;simp;omega
 ·simp[dp]at b d;subst b d;simp;omega
 ·simp[dp]at b d;subst b d;simp;omega
 ·simp at b
theorem ny {c:ak} (h:bh c):bD [1,4,4,4] (dd c)=some (dp c):=by
 obtain⟨a,b,k,l,f,g,_,_⟩:=h;have i:(256:Nat)^1=256:=rfl;have j:(256:Nat)^4=4294967296:=rfl;have d:=kM c;have e:dd c=beBytes 1 (bF c).toNat++(beBytes 4 c.epoch.toNat++(beBytes 4 c.slot.toNat++(beBytes 4 c.lba.toNat++[]))):=by simp[dd,dp,da]
 rw[e,bP (by decide) (by decide) (by omega) (by omega),bP (by decide) (by decide) (by omega) (by omega),bP (by decide) (by decide) (by omega) (by omega),bP (by decide) (by decide) (by omega) (by omega),kJ];simp only[Option.map_some,dp];rw[show(((bF c).toNat:Nat):Int)=bF c by omega,show((c.epoch.toNat:Nat):Int)=c.epoch by omega,show((c.slot.toNat:Nat):Int)=c.slot by omega,show((c.lba.toNat:Nat):Int)=c.lba by omega]
theorem Dp {a:ByteArray} {c:ak} (b:ah a (cellL c)):ah (a.extract 0 13) (dd c):=
 (b.extract 0 13).cast (by unfold cellL fa;rw[List.drop_zero,List.append_assoc,ij (cS c)])
theorem Dq {a:ByteArray} {c:ak} (b:ah a (cellL c)) (h:c.cipher.size≤4000):∃z,ah (a.extract 13 4096) (cq c.cipher.data.toList++z):=by
 have hl:=fm c h;refine⟨List.replicate (4096-(dd c++cq c.cipher.data.toList).length) 0,(b.extract 13 4096).cast ?_⟩;rw[List.take_of_length_le (by rw[hl];exact Nat.le_refl _)];unfold cellL fa;rw[List.append_assoc,ik (cS c)]
theorem vX {c d:ak} (hc:bh c) (hd:bh d) (h:cellL c=cellL d):c=d:=by
 have m:dd c=dd d:=by
  have:=congrArg (List.take 13) h
  unfold cellL fa at this
  rwa[List.append_assoc,List.append_assoc,ij (cS c),ij (cS d)]at this
 have i:dp c=dp d:=by
  have:=ny hc
  rw[m,ny hd]at this
  exact(Option.some.inj this).symm
 have e:=congrArg (List.drop 13) h;unfold cellL fa at e;rw[List.append_assoc,List.append_assoc,ik (cS c),ik (cS d)]at e;have u:=hc.n;have v:=hd.n;have p:c.cipher.data.toList.length=c.cipher.size:=rfl;have q:d.cipher.data.toList.length=d.cipher.size:=rfl;have f:=jQ (t:=c.cipher.data.toList) (s:=List.replicate (4096-(dd c++cq c.cipher.data.toList).length) 0) (by omega);rw[e,jQ (by omega)]at f;simp only[Option.some.injEq,Prod.mk.injEq]at f;have j:c.cipher=d.cipher:=(ah.self c.cipher).eq (show ah d.cipher c.cipher.data.toList from f.1);obtain⟨a,b,l,g,s⟩:=c;obtain⟨o,b',r,g',w⟩:=d;simp only[dp,List.cons.injEq,and_true]at i;simp only at j;obtain⟨k,rfl,rfl,rfl⟩:=i;subst j
 have:g=g':=by
  unfold bF at k;simp only at k
  cases g<;>cases g'<;>simp at k<;>rfl
 rw[this]
theorem su (c:ak) (w:World) (hc:bh c):
  Calls prog 157 #[.agg c.cells.toArray] w fun e w'=>e= .returned (.int .i64 0)∧Below w.heap.size w w':=by
 cases hg:c.gone with
 |false=>exact sk c w hc hg
 |true=>
  have d:c.cipher=⟨#[]⟩:=hc.g hg;have a:=hid hc;have f:=hid hg;have h:=hid d;clear hc hg d;go_enter func157,ntmps157
  go_wp2_with (first
   |((with_reducible refine ae 134 (.tmp 0) c.cells (some 1) ?hgd ?ho ?hd ?hx ?_);(case hgd|ho|hd|hx=>rfl);(intro n r k b j s;have o:=b.cell (i:=0) rfl;have p:=b.cell (i:=1) rfl;have q:=b.cell (i:=2) rfl;have l:=b.cell (i:=3) rfl;have m:=b.cell (i:=4) rfl;rw[f.out]at l;rw[h.out]at m))
   |fail)
  refine(dy c.epoch 4294967295 _ a.e0 a.e1).mono ?_
  rintro e w' ⟨rfl,rfl⟩;go_wp2_with fail
  refine(dy c.slot 4294967295 _ a.s0 a.s1).mono ?_
  rintro e w' ⟨rfl,rfl⟩;go_wp2_with fail
  refine(dy c.lba 4095 _ a.l0 a.l1).mono ?_
  rintro e w' ⟨rfl,rfl⟩;go_wp2_with fail;go_ret;exact⟨rfl,j.mono k⟩
theorem mn (c:ak) (w:World) (hc:bh c):
  Calls prog 77 #[.agg c.cells.toArray] w fun e w'=>(∃z,e= .returned (.tuple #[.string z, .int .i64 0])∧ah z (cellL c))∧Below w.heap.size w w':=by
 have W:=hid (show kh [1,4,4,4] [bF c,c.epoch,c.slot,c.lba]from Fq hc);have X:=hid (show da [1,4,4,4] [bF c,c.epoch,c.slot,c.lba]=dd c from rfl);have V:=hid hc;clear hc;go_enter func77,ntmps77
 go_wp2_with (first
  |((with_reducible refine ae 134 (.tmp 0) c.cells (some 1) ?hgd ?ho ?hd ?hx ?_);(case hgd|ho|hd|hx=>rfl);(intro Y w1 l1 B1 e1 z1))
  |((with_reducible refine aj 134 (.tmp 1) Y c.cells 134 _ B1 underlying134 rfl aX ?hgd ?ho ?hx ?_);(case hgd|ho|hx=>rfl))
  |fail)
 refine(su c _ V.out).mono ?_
 rintro e w2 ⟨rfl,Q⟩;have A:=hid (B1.below Q z1);have U:=hid ((e1.mono l1).trans (Q.mono (Nat.le_trans l1 (Nat.le_of_lt z1))));clear Q B1 e1 l1 z1;have q3:=A.cell (i:=3) rfl;go_upto_if 14 with fail;go_cut [5]from 5 to 14 (fun k wx=>k= .int .i64 (bF c)∧wx=w2)
 case first=>
  cases hg:c.gone with
  |false=>
   have HK:=hid (show bF c=1 from by unfold bF;rw[hg];rfl);go_wp2_with fail;go_meet;exact⟨by rw[HK.out],rfl⟩
  |true=>
   have HK:=hid (show bF c=2 from by unfold bF;rw[hg];rfl);go_wp2_with fail;go_meet;exact⟨by rw[HK.out],rfl⟩
 case rest=>
  obtain⟨rfl,a1⟩:=hcut;obtain rfl:=a1.symm;clear q3;go_wp2_with fail;refine wp_region_held_drew (S:=fun wx=>wx.cell? ⟨Y,0,none⟩=some (.int .i64 c.epoch)∧wx.cell? ⟨Y,1,none⟩=some (.int .i64 c.slot)∧wx.cell? ⟨Y,2,none⟩=some (.int .i64 c.lba)) (by kernel_rfl) (⟨A.cell (i:=0) rfl,A.cell (i:=1) rfl,A.cell (i:=2) rfl⟩) (fun b=> ?_);obtain⟨L,J⟩:∃L,L=w2.drew:=⟨_,rfl⟩;have y:Hid (ac L Y c.cells 134):=hid (by rw[J];exact A.drew);have j:Hid (Below w.heap.size w L):=hid (by rw[J];exact U.drew);rw[←J];rw[←J]at b;clear J;refine hp 1 ?_;refine hp 2 ?_;refine hp 3 ?_;refine hp 4 ?_;refine hp 5 ?_;refine hp 6 ?_;refine hp 7 ?_;refine wpAnyH_ready (rs:=[0,8]) (by kernel_rfl) (by simp) ?_;refine AllReadyH.cons rfl (fun K r=> ?_) (AllReadyH.cons rfl (fun K r=> ?_) AllReadyH.nil)
  ·go_simp
   refine(jX _).mono ?_
   rintro e wa ⟨⟨gw,rfl,I,_⟩,s⟩;have d:=hid (y.below s y.lt);have g:=hid (j.trans (s.mono j.size));have E:=hid I
   skip
   clear s I
   (try go_wp2_with fail)
   refine r.out _ _ (⟨d.cell (i:=0) rfl,d.cell (i:=1) rfl,d.cell (i:=2) rfl⟩) (fun a=> ?_);clear r K b;have b:=a;clear a
   (try go_frame)
   refine wpAnyH_ready (rs:=[8]) (by kernel_rfl) (by simp) ?_;refine AllReadyH.cons rfl (fun K r=> ?_) AllReadyH.nil;go_simp;obtain⟨wb,m⟩:∃w4,w4=wa.alloc (Obj.cells #[.int .i64 (bF c), .int .i64 c.epoch, .int .i64 c.slot, .int .i64 c.lba] 3):=⟨_,rfl⟩;rw[←m];have u:Below wa.heap.size wa wb:=by rw[m];exact(Below.refl _ _).alloc (Nat.le_refl _) _
   have T:ac wb wa.heap.size [.int .i64 (bF c), .int .i64 c.epoch, .int .i64 c.slot, .int .i64 c.lba] 3:=by rw[m];exact ac.new wa _ _
   have C:=hid T;have f:=hid (d.below u d.lt);have h:=hid (g.trans (u.mono g.size));have v:=hid (E.below u E.lt);clear u T m
   (try go_wp2_with fail)
   refine r.out _ _ (⟨f.cell (i:=0) rfl,f.cell (i:=1) rfl,f.cell (i:=2) rfl⟩) (fun a=> ?_);clear r K b;have b:=a;clear a
   (try go_frame)
   refine wpAnyH_ready (rs:=[9]) (by kernel_rfl) (by simp) ?_;refine AllReadyH.cons rfl (fun K r=> ?_) AllReadyH.nil;go_simp
   refine(fc _ _ [1,4,4,4] [bF c,c.epoch,c.slot,c.lba] _ (bC.blk (xs:=[1,4,4,4]) v.out rfl 4) (bC.blk (xs:=[bF c,c.epoch,c.slot,c.lba]) C.out rfl 4) (by show 0<4;decide) (by show 4≤16;decide) W.out).mono ?_
   rintro e wp ⟨q,rfl,Z,x⟩;have l:=hid (f.below x f.lt);have o:=hid (h.trans (x.mono h.size));have D:=hid (show ah q (dd c)from Z.cast X.out);clear x Z
   (try go_wp2_with fail)
   refine r.out _ _ (⟨l.cell (i:=0) rfl,l.cell (i:=1) rfl,l.cell (i:=2) rfl⟩) (fun a=> ?_);clear r K b;have b:=a;clear a
   (try go_frame)
   refine hp 10 ?_;refine hp 11 ?_;refine hp 12 ?_;refine hp 13 ?_;refine hp 14 ?_;refine wpAnyH_done (by kernel_rfl) ?_ _;clear b;have q4:=l.cell (i:=4) rfl;go_wp2_with fail
   refine(eY c.cipher _ (by have:=V.n;omega)).mono ?_
   rintro e wt ⟨t,rfl,R,G⟩;have O:=hid R;have p:=hid (o.trans (G.mono o.size));have H:q.size+t.size≤4096:=by rw[D.size,R.size,cS,ch,show c.cipher.data.toList.length=c.cipher.size from rfl];have:=V.n;omega
   have a0:(q.size:Int)+(t.size:Int)≤4096:=by omega
   have N:=hid H;clear R G H;go_wp2_with fail
   refine(fV (q++t) 4096 _ (by rw[ByteArray.size_append];exact N.out) (by decide)).mono ?_
   rintro e wf ⟨z,rfl,tz,F⟩;have B:=hid (p.trans (F.mono p.size));have P:=hid (show ah z (cellL c)from tz.cast (by unfold cellL;rw[show(q++t).data.toList= _ from D.append O.out]));clear tz F;go_wp2_with fail;go_ret2;exact⟨⟨z,rfl,P.out⟩,B.out⟩
  ·go_simp
   obtain⟨wa,m⟩:∃w4,w4=L.alloc (Obj.cells #[.int .i64 (bF c), .int .i64 c.epoch, .int .i64 c.slot, .int .i64 c.lba] 3):=⟨_,rfl⟩;rw[←m];have u:Below L.heap.size L wa:=by rw[m];exact(Below.refl _ _).alloc (Nat.le_refl _) _
   have T:ac wa L.heap.size [.int .i64 (bF c), .int .i64 c.epoch, .int .i64 c.slot, .int .i64 c.lba] 3:=by rw[m];exact ac.new L _ _
   have M:=hid T;have d:=hid (y.below u y.lt);have g:=hid (j.trans (u.mono j.size))
   skip
   clear u T m
   (try go_wp2_with fail)
   refine r.out _ _ (⟨d.cell (i:=0) rfl,d.cell (i:=1) rfl,d.cell (i:=2) rfl⟩) (fun a=> ?_);clear r K b;have b:=a;clear a
   (try go_frame)
   refine wpAnyH_ready (rs:=[0]) (by kernel_rfl) (by simp) ?_;refine AllReadyH.cons rfl (fun K r=> ?_) AllReadyH.nil;go_simp
   refine(jX _).mono ?_
   rintro e wb ⟨⟨gw,rfl,I,_⟩,s⟩;have f:=hid (d.below s d.lt);have h:=hid (g.trans (s.mono g.size));have v:=hid I;have C:=hid (M.below s M.lt);clear s I
   (try go_wp2_with fail)
   refine r.out _ _ (⟨f.cell (i:=0) rfl,f.cell (i:=1) rfl,f.cell (i:=2) rfl⟩) (fun a=> ?_);clear r K b;have b:=a;clear a
   (try go_frame)
   refine wpAnyH_ready (rs:=[9]) (by kernel_rfl) (by simp) ?_;refine AllReadyH.cons rfl (fun K r=> ?_) AllReadyH.nil;go_simp
   refine(fc _ _ [1,4,4,4] [bF c,c.epoch,c.slot,c.lba] _ (bC.blk (xs:=[1,4,4,4]) v.out rfl 4) (bC.blk (xs:=[bF c,c.epoch,c.slot,c.lba]) C.out rfl 4) (by show 0<4;decide) (by show 4≤16;decide) W.out).mono ?_
   rintro e wp ⟨q,rfl,Z,x⟩;have l:=hid (f.below x f.lt);have o:=hid (h.trans (x.mono h.size));have D:=hid (show ah q (dd c)from Z.cast X.out);clear x Z
   (try go_wp2_with fail)
   refine r.out _ _ (⟨l.cell (i:=0) rfl,l.cell (i:=1) rfl,l.cell (i:=2) rfl⟩) (fun a=> ?_);clear r K b;have b:=a;clear a
   (try go_frame)
   refine hp 10 ?_;refine hp 11 ?_;refine hp 12 ?_;refine hp 13 ?_;refine hp 14 ?_;refine wpAnyH_done (by kernel_rfl) ?_ _;clear b;have q4:=l.cell (i:=4) rfl;go_wp2_with fail
   refine(eY c.cipher _ (by have:=V.n;omega)).mono ?_
   rintro e wt ⟨t,rfl,R,G⟩;have O:=hid R;have p:=hid (o.trans (G.mono o.size));have H:q.size+t.size≤4096:=by rw[D.size,R.size,cS,ch,show c.cipher.data.toList.length=c.cipher.size from rfl];have:=V.n;omega
   have a0:(q.size:Int)+(t.size:Int)≤4096:=by omega
   have N:=hid H;clear R G H;go_wp2_with fail
   refine(fV (q++t) 4096 _ (by rw[ByteArray.size_append];exact N.out) (by decide)).mono ?_
   rintro e wf ⟨z,rfl,tz,F⟩;have B:=hid (p.trans (F.mono p.size));have P:=hid (show ah z (cellL c)from tz.cast (by unfold cellL;rw[show(q++t).data.toList= _ from D.append O.out]));clear tz F;go_wp2_with fail;go_ret2;exact⟨⟨z,rfl,P.out⟩,B.out⟩
theorem pn (c:ak) (w:World) (hc:bh c) (a:c.gone=false):
  Calls prog 77 #[.agg c.cells.toArray] w fun e w'=>(∃z,e= .returned (.tuple #[.string z, .int .i64 0])∧ah z (cellL c))∧Below w.heap.size w w':=mn c w hc
theorem aM {v:ag}:(prog.info? 130).map (·.size)=some v.cells.length:=by kernel_rfl
theorem mo (a b:Int) (w:World):
  Calls prog 214 #[.int .i64 a, .int .i64 b] w fun e w'=>e= .returned (.int .i64 (fD a b))∧w=w':=by
 have c:∀(x:Int) (w:World),Calls prog 264 #[.int .i64 x] w fun e w'=>e= .returned (.bool false)∧w=w':=by
  intro x w;go_enter func264,ntmps264;go_wp2_with fail;go_ret
  first|exact⟨rfl,rfl⟩|exact⟨dX (by simp),rfl⟩
 by_cases f:a<b
 ·have hc:fD a b=-1:=by unfold fD;rw[if_pos f]
  rw[hc];have d:=hid c;clear c hc;go_enter func214,ntmps214;go_wp2_with fail
  refine(d.out a _).mono ?_
  rintro e w' ⟨rfl,rfl⟩;go_wp2_with fail
  refine(d.out b _).mono ?_
  rintro e w' ⟨rfl,rfl⟩;go_wp2_with fail;go_ret;exact⟨rfl,rfl⟩
 ·by_cases g:b<a
  ·have hc:fD a b=1:=by unfold fD;rw[if_neg f,if_pos g]
   rw[hc];have d:=hid c;clear c hc;go_enter func214,ntmps214;go_wp2_with fail
   refine(d.out a _).mono ?_
   rintro e w' ⟨rfl,rfl⟩;go_wp2_with fail
   refine(d.out b _).mono ?_
   rintro e w' ⟨rfl,rfl⟩;go_wp2_with fail;go_ret;exact⟨rfl,rfl⟩
  ·have hc:fD a b=0:=by unfold fD;rw[if_neg f,if_neg g]
   rw[hc];have d:=hid c;clear c hc;go_enter func214,ntmps214;go_wp2_with fail
   refine(d.out a _).mono ?_
   rintro e w' ⟨rfl,rfl⟩;go_wp2_with fail
   refine(d.out b _).mono ?_
   rintro e w' ⟨rfl,rfl⟩;go_wp2_with fail;go_ret;exact⟨rfl,rfl⟩
def CM (x y z:Int):Int:=if x≠0 then x else if y≠0 then y else z
def LR (x y z:Int) (k:Nat):Prop:=(k=0∧True)∨(k=1∧x=0)∨(k=2∧x=0∧y=0)∨(k=3∧x=0∧y=0∧z=0)
theorem JG (g c:Nat) (x y z:Int) (t:TypeId) (w:World) (h:ac w g [.int .i64 x, .int .i64 y, .int .i64 z] t):
  Calls prog 238 #[.slice (some ⟨g,0,none⟩) 3 c] w fun e w'=>e= .returned (.int .i64 (CM x y z))∧w=w':=by
 have m:=h.cell (i:=0) rfl;have n:=h.cell (i:=1) rfl;have o:=h.cell (i:=2) rfl;obtain⟨r,f⟩:∃r,CM x y z=r:=⟨_,rfl⟩;have d:=hid f;rw[f];clear h f;go_enter func238,ntmps238;go_wp2_with fail;go_loopw [8] (fun i wr=>∃k:Nat,k≤3∧i= .int .i64 k∧wr=w∧Hid (LR x y z k)) (fun i _=>3-(intOf i).toNat)
 case atStart=>exact⟨0,by omega,rfl,rfl, .inl ⟨rfl,trivial⟩⟩
 case round=>
  obtain⟨k,b,rfl,rfl,j⟩:=hrel
  match k,b with
  |0,b=>
   by_cases l:x=0
   ·go_wp2_with fail
    go_roundw
    case rel=>exact⟨1,by omega,rfl,(by first|rfl|trivial), .inr (.inl ⟨rfl,l⟩)⟩
    case measure=>simp[intOf]
   ·go_wp2_with fail
    go_ret;have a:r=x:=by rw[←d.out];unfold CM;rw[if_pos l]
    exact⟨by rw[a];rfl,rfl⟩
  |1,b=>
   obtain h1|h1|h1|h1:=j.out
   ·omega
   ·by_cases hy:y=0
    ·go_wp2_with fail
     go_roundw
     case rel=>exact⟨2,by omega,rfl,(by first|rfl|trivial), .inr (.inr (.inl ⟨rfl,h1.2,hy⟩))⟩
     case measure=>simp[intOf]
    ·go_wp2_with fail
     go_ret;have a:r=y:=by rw[←d.out];unfold CM;rw[if_neg (by simp[h1.2]),if_pos hy]
     exact⟨by rw[a];rfl,rfl⟩
   ·omega
   ·omega
  |2,b=>
   obtain h1|h1|h1|h1:=j.out
   ·omega
   ·omega
   ·by_cases hy:z=0
    ·go_wp2_with fail
     go_roundw
     case rel=>exact⟨3,by omega,rfl,(by first|rfl|trivial), .inr (.inr (.inr ⟨rfl,h1.2.1,h1.2.2,hy⟩))⟩
     case measure=>simp[intOf]
    ·go_wp2_with fail
     go_ret;have a:r=z:=by rw[←d.out];unfold CM;rw[if_neg (by simp[h1.2.1]),if_neg (by simp[h1.2.2])]
     exact⟨by rw[a];rfl,rfl⟩
   ·omega
  |3,b=>
   obtain h1|h1|h1|h1:=j.out
   ·omega
   ·omega
   ·omega
   ·go_wp2_with fail
    go_ret;have a:r=0:=by rw[←d.out];unfold CM;rw[if_neg (by simp[h1.2.1]),if_neg (by simp[h1.2.2.1]),h1.2.2.2]
    exact⟨by rw[a];rfl,rfl⟩
theorem tf (a b:ag) (w:World):
  Calls prog 166 #[.agg a.cells.toArray, .agg b.cells.toArray] w fun e w'=>e= .returned (.int .i64 (cL a b))∧Below w.heap.size w w':=by
 go_enter func166,ntmps166
 go_wp2_with (first
  |((with_reducible refine ae 130 (.tmp 0) a.cells (some 2) ?hgd ?ho ?hd ?hx ?_);(case hgd|ho|hd|hx=>rfl);(intro p y h l m k))
  |((with_reducible refine ae 130 (.tmp 1) b.cells (some 3) ?hgd ?ho ?hd ?hx ?_);(case hgd|ho|hd|hx=>rfl);(intro q n j f g o))
  |fail)
 have c:=l.below g (Nat.lt_of_lt_of_le k j);have r:=c.cell (i:=0) rfl;have s:=c.cell (i:=1) rfl;have t:=c.cell (i:=2) rfl;have u:=f.cell (i:=0) rfl;have v:=f.cell (i:=1) rfl;have x:=f.cell (i:=2) rfl;have d:=hid ((m.mono h).trans (g.mono (Nat.le_trans h (Nat.le_trans (Nat.le_of_lt k) j))));clear l c f m g h j k o;refine aK 15 (by kernel_rfl) (by kernel_rfl) ?_;simp only[List.take_succ_cons,List.take_zero,List.drop_succ_cons,List.drop_zero]
 iterate 4 still_step
 still_call (eo (mo a.lba b.lba _))
 iterate 4 still_step
 still_call (eo (mo a.epoch b.epoch _))
 iterate 4 still_step
 still_call (eo (mo a.slot b.slot _))
 refine wpStill_nil ?_;go_wp2_with fail
 refine(JG _ 3 (fD a.lba b.lba) (fD a.epoch b.epoch) (fD a.slot b.slot) 3 _ (ac.new n [.int .i64 (fD a.lba b.lba), .int .i64 (fD a.epoch b.epoch), .int .i64 (fD a.slot b.slot)] _).drew).mono ?_
 rintro e w' ⟨rfl,rfl⟩;go_wp2_with fail;go_ret;exact⟨rfl,(d.alloc d.size _).drew⟩
theorem pR (n m:Int) (w:World) (a:0≤n) (b:n≤m):
  Calls prog 237 #[.int .i64 n, .int .i64 m] w fun e w'=>e= .returned (.bool true)∧w=w':=by
 go_enter func237,ntmps237;go_wp2_with fail;go_ret
 first|exact⟨rfl,rfl⟩|exact⟨dX (by simp;omega),rfl⟩|exact⟨dX (by simp),rfl⟩
structure y7 (v:ag):Prop where
 l0:0≤v.lba
 l1:v.lba≤4095
 e0:0≤v.epoch
 e1:v.epoch≤4294967295
 s0:0≤v.slot
 s1:v.slot≤4294967295
theorem vY (v:ag) (w:World) (c:y7 v):
  Calls prog 164 #[.agg v.cells.toArray] w fun e w'=>e= .returned (.bool true)∧Below w.heap.size w w':=by
 have a:=hid c;clear c;go_enter func164,ntmps164
 go_wp2_with (first
  |((with_reducible refine ae 130 (.tmp 0) v.cells (some 1) ?hgd ?ho ?hd ?hx ?_);(case hgd|ho|hd|hx=>rfl);(intro g l f b d m;have h:=b.cell (i:=0) rfl;have j:=b.cell (i:=1) rfl;have k:=b.cell (i:=2) rfl))
  |fail)
 refine(pR v.lba 4095 _ a.l0 a.l1).mono ?_
 rintro e w' ⟨rfl,rfl⟩;go_wp2_with fail
 refine(pR v.epoch 4294967295 _ a.e0 a.e1).mono ?_
 rintro e w' ⟨rfl,rfl⟩;go_wp2_with fail
 refine(pR v.slot 4294967295 _ a.s0 a.s1).mono ?_
 rintro e w' ⟨rfl,rfl⟩;go_wp2_with fail;go_ret;exact⟨rfl,d.mono f⟩
theorem jp (a:Nat) (xv:Value) (w:World) (h:ac w a [.bool true,xv] 238):
  Calls prog 163 #[.pointer (some ⟨a,0,none⟩)] w fun e w'=>e= .returned (.bool true)∧w=w':=by
 have b:=h.cell (i:=0) rfl;go_enter func163,ntmps163;go_wp2_with fail;go_ret;exact⟨rfl,rfl⟩
end Go.Proofs.YtadooplpfhdhcaaGreat
