/- Keys' places (chapter 11): Put, Empty, Take, Pick; a text with noughts behind it (chapter 1). Superblocks (chapter 10): Check, widths, Put, of a superblock that may be. A journal's commit (chapter 25), of a disk that has power. -/
import Derived.Test.YtadooplpfhdhcaaGreatQ6
import Derived.Test.YtadooplpfhdhcaaGreatQ8
import Derived.Test.YtadooplpfhdhcaaGreatQ4
import Derived.Test.YtadooplpfhdhcaaGreatQ7
set_option linter.unusedSimpArgs false
set_option linter.unusedVariables false
set_option maxRecDepth 100000
set_option maxHeartbeats 4000000
namespace Go.Proofs.YtadooplpfhdhcaaGreat
open Go Go.RowKit
open Go.Lib (hid)
open Go.Proofs.Tryz
theorem fV (s:ByteArray) (n:Nat) (w:World) (h:s.size≤n) (hn:n≤65536):
  Calls prog 159 #[.string s, .int .i64 (n:Int)] w fun e w'=>∃r,e= .returned (.tuple #[.string r, .int .i64 0])∧ah r (fa s.data.toList n)∧Below w.heap.size w w':=by
 have f:¬(n:Int)<s.size:=by omega
 have i:¬(65536:Int)<n:=by omega
 go_enter func159,ntmps159;go_wp2_with fail;obtain⟨m,b⟩:∃m:Nat,m+s.size=n:=⟨n-s.size,by omega⟩;rw[show(n:Int)-(s.size:Int)=(m:Int) by omega]
 refine(kw m _ (by omega)).mono ?_
 rintro e k ⟨r,rfl,a,hb⟩;have j:r.size=m:=by rw[a.size];simp
 have c:=hid b;have d:=hid a;clear a h f;have g:(s.size:Int)+r.size≤65536:=by omega
 clear b;go_wp2_with fail;go_ret2;refine⟨_,rfl,((ah.self s).append d.out).cast ?_,hb⟩;unfold fa
 have:s.data.toList.length=s.size:=rfl
 rw[this,show n-s.size=m by have:=c.out;omega]
theorem kq (w:World):
  Calls prog 98 #[] w fun e w'=>e= .returned (.string (⟨(List.replicate 4096 0).toArray⟩:ByteArray))∧Below w.heap.size w w':=by
 go_enter func98,ntmps98;go_wp2_with fail
 refine(kw 4096 _ (by decide)).mono ?_
 rintro e b ⟨r,rfl,a,hb⟩;obtain rfl:r=(⟨(List.replicate 4096 0).toArray⟩:ByteArray):=a.of;go_wp2_with fail;go_ret;exact⟨rfl,hb⟩
theorem lx (n:Nat) (key:ByteArray) (w:World) (hn:n<4294967296) (x:key.size=32):
  Calls prog 99 #[.int .i64 (n:Int), .string key] w fun e w'=>∃r,e= .returned (.tuple #[.string r, .int .i64 0])∧ah r (ew n key.data.toList)∧Below w.heap.size w w':=by
 go_enter func99,ntmps99;go_wp2_with fail
 refine(sF n 4 _ (by decide) (by decide) (by omega) (fun _=>by simpa using hn)).mono ?_
 rintro e A ⟨r,rfl,p,d⟩;have t:r.size=4:=by rw[p.size,beBytes_length]
 have k:=hid p;have a:=hid d;clear p d;have v:(key.size:Int)=32:=by omega
 go_upto_region 5 with fail;obtain⟨s,h⟩:∃s,(⟨#[107,101,121]⟩:ByteArray)++r++key=s:=⟨_,rfl⟩;rw[h];have m:s.size=39:=by rw[←h,ByteArray.size_append,ByteArray.size_append,t,x];rfl
 have c:=hid (show ah s (eM n key.data.toList) by rw[←h];exact((show ah (⟨#[107,101,121]⟩:ByteArray) nh from rfl).append (k.cast (by simp))).append (ah.self key));clear h t;go_wp2_with fail
 refine(ma s _ _ (by omega)).mono ?_
 rintro e B ⟨q,rfl,o,f⟩;have y:q.size=32:=by rw[o.size,cT]
 have j:=hid (show ah q (eh (eM n key.data.toList))from o.cast (by rw[show s.data.toList= _ from c.out]));have b:=hid (a.trans (f.mono a.size));clear o f;go_wp2_with fail
 refine(fV (s++q) 4096 _ (by rw[ByteArray.size_append,m,y];decide) (by decide)).mono ?_
 rintro e C ⟨z,rfl,u,g⟩;have i:=hid (b.trans (g.mono b.size));have l:=hid (show ah z (ew n key.data.toList)from u.cast (by unfold ew;rw[show(s++q).data.toList= _ from c.append j.out]));clear u g;go_wp2_with fail;go_ret2;exact⟨z,rfl,l.out,i.out⟩
theorem ly (n:Int) (w:World) (a:0≤n) (b:n<4294967296):
  Calls prog 287 #[.int .i64 n] w fun e w'=>e= .returned (.bool true)∧w=w':=by
 have c:n≤4294967295:=by omega
 go_enter func287,ntmps287;go_wp2_with fail;go_ret;exact⟨rfl,rfl⟩
theorem pg (n:Nat) (key:List UInt8):∃t,ew n key=nh++(beBytes 4 n++(key++t)):=by
 refine⟨eh (eM n key)++List.replicate (4096-(eM n key++eh (eM n key)).length) 0, ?_⟩;unfold ew fa;have h:eM n key=nh++(beBytes 4 n++key):=by unfold eM;rw[List.append_assoc];simp
 conv=>lhs;rw[show eM (n:Int) key++eh (eM n key)=eM n key++eh (eM n key)from rfl]
 rw[List.append_assoc]
 conv=>lhs;lhs;rw[h]
 simp only[List.append_assoc]
theorem Ic {a:ByteArray} {n:Nat} {key:List UInt8} (b:ah a (ew n key)):ah (a.extract 3 7) (beBytes 4 n):=by
 obtain⟨t,h⟩:=pg n key;rw[h]at b
 refine(b.extract 3 7).cast ?_
 rw[show(7:Nat)=3+4 from rfl,List.drop_take,show 3+4-3=4 from rfl,ik (show nh.length=3 from rfl),ij (beBytes_length 4 n)]
theorem Ie {a key:ByteArray} {n:Nat} (b:ah a (ew n key.data.toList)) (e:key.size=32):a.extract 7 39=key:=by
 obtain⟨t,h⟩:=pg n key.data.toList;rw[h]at b
 have d:ah (a.extract 7 39) key.data.toList:=(b.extract 7 39).cast (by
  rw[show(39:Nat)=7+32 from rfl,List.drop_take,show 7+32-7=32 from rfl];have c:∀x:List UInt8,x.drop 7=(x.drop 3).drop 4:=fun x=>by rw[List.drop_drop]
  rw[c,ik (show nh.length=3 from rfl),ik (beBytes_length 4 n),ij (show key.data.toList.length=32 from e)])
 exact d.eq (ah.self key)
theorem If {a:ByteArray} {n:Nat} {key:List UInt8} (d:ah a (ew n key)) (e:a.size=4096):¬∀k,k<a.size→a.data.toList.getD k 0=0:=by
 intro h;obtain⟨t,c⟩:=pg n key;have b:=h 0 (by omega);rw[show a.data.toList= _ from d,c]at b;exact absurd b (by simp[nh,List.getD])
theorem ov (n:Nat) (key block:ByteArray) (w:World) (hn:n<4294967296) (u:key.size=32) (c:ah block (ew n key.data.toList)):
  Calls prog 288 #[.string block] w fun e w'=>e= .returned (.tuple #[.int .i64 (n:Int), .string key, .int .i64 0])∧Below w.heap.size w w':=by
 have y:block.size=4096:=by rw[c.size];exact nM (by exact u)
 have b:=hid (If c y);have m:=hid (Ic c);have o:=hid (Ie c u);have B:=hid c;have v:=hid y;have C:(block.size:Int)=4096:=by omega
 clear c;go_enter func288,ntmps288;go_wp2_with fail
 refine(Jd block _ (by have:=v.out;omega)).mono ?_
 rintro e D ⟨q,rfl,x,g,i⟩
 obtain rfl:q=1:=by
  rcases g with h1|h1
  ·exact absurd (x.1 h1) b.out
  ·exact h1
 have d:=hid i;clear x g i;go_wp2_with fail;obtain⟨s4,s⟩:∃s4,block.extract 3 7=s4:=⟨_,rfl⟩;rw[s];have z:ah s4 (beBytes 4 n):=by rw[←s];exact m.out
 have p:=hid z;clear s z
 refine(nc s4 _).mono ?_
 rintro e E ⟨t,rfl⟩
 obtain rfl:e= .returned (.tuple #[.int .i64 (n:Int), .int .i64 0]):=by
  rw[show s4.data.toList= _ from p.out]at t;have a:=ir 4 n (by simpa using hn)
  rcases t with⟨_,h⟩|⟨h,_⟩
  ·rw[h,a]
  ·exact absurd ⟨by rw[beBytes_length];omega,by rw[beBytes_length];omega,by rw[a];omega⟩ h
 clear t;go_wp2_with fail;rw[o.out]
 refine(lx n key _ hn u).mono ?_
 rintro e F ⟨r,rfl,A,j⟩;obtain rfl:r=block:=A.eq B.out;have f:=hid (d.trans (j.mono d.size));clear A j;go_wp2_with fail
 refine(EZ r r _ (by have:=v.out;omega) rfl).mono ?_
 rintro e G ⟨rfl,k⟩;have l:=hid (f.trans (k.mono f.size));rw[decide_eq_true rfl];clear k;go_wp2_with fail
 (try simp only[Exit.inBlock,Exit.then]);refine bodyPost_ret (results_tmp3 rfl _ _ _) rfl ⟨rfl,l.out⟩
theorem vM (n:Nat) (key a b:ByteArray) (w:World) (hn:n<4294967296) (h:key.size=32) (d:ah (if n % 2=0 then a else b) (ew n key.data.toList)):
  Calls prog 257 #[.string a, .string b, .int .i64 (n:Int)] w fun e w'=>e= .returned (.tuple #[.string key, .int .i64 0])∧Below w.heap.size w w':=by
 have c:(0:Int)≤(n:Int):=by omega
 by_cases g:n % 2=0
 ·rw[if_pos g]at d
  have f:(n:Int) % 2=0:=by omega
  go_enter func257,ntmps257;go_wp2_with fail
  refine(ly _ _ c (by omega)).mono ?_
  rintro e w' ⟨rfl,rfl⟩
  go_wp2_with (first
   |((with_reducible refine fq 347 9 (.tmp 17) (.tmp 19) [.string a, .string b] 2 0 (.string a) (some 20) underlying347 isAgg9 sizeOf9 (by decide) rfl ?hgd ?ho ?hd ?hx ?hy ?_);(case hgd|ho|hd|hx=>rfl);(case hy=>exact congrArg (Value.int .i64) f))
   |fail)
  refine(ov n key a _ hn h d).mono ?_
  rintro e i ⟨rfl,hb⟩;go_wp2_with fail;go_ret2;exact⟨rfl,hb⟩
 ·rw[if_neg g]at d
  have f:(n:Int) % 2=1:=by omega
  go_enter func257,ntmps257;go_wp2_with fail
  refine(ly _ _ c (by omega)).mono ?_
  rintro e w' ⟨rfl,rfl⟩
  go_wp2_with (first
   |((with_reducible refine fq 347 9 (.tmp 17) (.tmp 19) [.string a, .string b] 2 1 (.string b) (some 20) underlying347 isAgg9 sizeOf9 (by decide) rfl ?hgd ?ho ?hd ?hx ?hy ?_);(case hgd|ho|hd|hx=>rfl);(case hy=>exact congrArg (Value.int .i64) f))
   |fail)
  refine(ov n key b _ hn h d).mono ?_
  rintro e i ⟨rfl,hb⟩;go_wp2_with fail;go_ret2;exact⟨rfl,hb⟩
theorem rY (i n:Nat) (s:ByteArray) (a b:Nat) (w:World) (c:ac w a [.int .i64 (n:Int)] 3) (d:i=n % 2):
  Calls prog 289 #[.int .i64 (i:Int), .string s, .pointer (some ⟨a,0,none⟩), .pointer (some ⟨b,0,none⟩)] w fun e w'=>e= .returned (.tuple #[])∧Below w.heap.size w w':=by
 have f:=c.cell (i:=0) rfl;have g:(n:Int) % 2=(i:Int):=by omega
 clear d;go_enter func289,ntmps289;go_wp2_with fail;go_end0;exact⟨rfl,Below.refl _ _⟩
theorem rZ (i n:Nat) (a b:Nat) (w:World) (c:ac w a [.int .i64 (n:Int)] 3) (d:i≠n % 2):
  Calls prog 289 #[.int .i64 (i:Int), .string (⟨(List.replicate 4096 0).toArray⟩:ByteArray), .pointer (some ⟨a,0,none⟩), .pointer (some ⟨b,0,none⟩)] w fun e w'=>e= .returned (.tuple #[])∧Below w.heap.size w w':=by
 have f:=c.cell (i:=0) rfl;have g:¬((i:Int)=(n:Int) % 2):=by omega
 clear d;go_enter func289,ntmps289;go_wp2_with fail
 refine(kq _).mono ?_
 rintro e h ⟨rfl,hb⟩;go_wp2_with fail;go_end0;exact⟨rfl,hb⟩
theorem Az (w:World):Sem.run prog (zeroValue 34) w= .ok (.slice none 0 0) w:=by kernel_rfl
theorem uI (n:Nat) (a b:ByteArray) (w:World) (hn:n<4294967296) (r:(if n % 2=0 then b else a)=(⟨(List.replicate 4096 0).toArray⟩:ByteArray)):
  Calls prog 258 #[.string a, .string b, .int .i64 (n:Int)] w fun e w'=>e= .returned (.slice none 0 0)∧Below w.heap.size w w':=by
 have P:∀(L:Fn) (first q:Array Value) (w:World),(Instr.makeFunc L first q).run prog w= .ok (.func L first q) w:=fun _ _ _ _=>rfl
 have p:=hid r;have u:(0:Int)≤(n:Int):=by omega
 have v:(n:Int)<4294967296:=by omega
 have B:=hid u;have C:=hid v;clear r u v hn;go_enter func258,ntmps258
 go_wp2_with (first
  |((with_reducible refine aO 3 (.tmp 2) (.int .i64 (n:Int)) rfl (some 5) ?hgd ?ho ?hd ?hx ?_);(case hgd|ho|hd|hx=>rfl);(intro l T G y K I);(have O:=y.cell (i:=0) rfl))
  |((with_reducible refine cd 34 (.slice none 0 0) Az rfl (some 7) ?hgd ?ho ?hd ?_);(case hgd|ho|hd=>rfl);(intro m U H J E R);(have h:=y.below E (Nat.lt_of_lt_of_le I H));(have D:=h.cell (i:=0) rfl))
  |fail)
 refine(ly _ _ B.out C.out).mono ?_
 rintro e w' ⟨rfl,rfl⟩;have g:=hid ((K.mono G).trans (E.mono (Nat.le_trans G (Nat.le_of_lt (Nat.lt_of_lt_of_le I H)))));have d:=hid h;have f:=hid J;clear K E y O D I R h J G H;go_wp2_with fail;go_loopw [19] (fun i wr=>∃k:Nat,k≤2∧i= .int .i64 k∧Below w.heap.size w wr∧ac wr l [.int .i64 (n:Int)] 3∧ac wr m [.slice none 0 0] 34) (fun i _=>2-(intOf i).toNat)
 case atStart=>exact⟨0,by omega,rfl,g.out,d.out,f.out⟩
 case round=>
  clear g d f;obtain⟨k,x,rfl,s,M,N⟩:=hrel;have g:=hid s;have d:=hid M;have f:=hid N;clear s M N
  match k,x with
  |0,x=>
   go_wp2_with (first
    |((with_reducible refine fq 347 9 (.tmp 18) (.tmp 19) [.string a, .string b] 2 0 (.string a) (some 22) underlying347 isAgg9 sizeOf9 (by decide) rfl ?hgd ?ho ?hd ?hx ?hy ?_);(case hgd|ho|hd|hx|hy=>rfl))
    |fail)
   refine Calls.mono (show Calls prog 289 #[.int .i64 ((0:Nat):Int), .string a, .pointer (some ⟨l,0,none⟩), .pointer (some ⟨m,0,none⟩)] wr (fun e w'=>e= .returned (.tuple #[])∧Below wr.heap.size wr w')from ?_) ?_
   ·by_cases t:0=n % 2
    ·exact rY 0 n a l m _ d.out t
    ·have F:a=(⟨(List.replicate 4096 0).toArray⟩:ByteArray):=by have:=p.out;rw[if_neg (by omega)]at this;exact this
     rw[F];exact rZ 0 n l m _ d.out t
   rintro e Q ⟨rfl,c⟩;have o:=g.size;have z:=d.below c d.lt;have A:=f.below c f.lt;have j:=g.trans (c.mono o);clear c;go_wp2_with fail;go_roundw
   case rel=>exact⟨0+1,by omega,rfl,j,z,A⟩
   case measure=>simp[intOf]
  |1,x=>
   go_wp2_with (first
    |((with_reducible refine fq 347 9 (.tmp 18) (.tmp 19) [.string a, .string b] 2 1 (.string b) (some 22) underlying347 isAgg9 sizeOf9 (by decide) rfl ?hgd ?ho ?hd ?hx ?hy ?_);(case hgd|ho|hd|hx|hy=>rfl))
    |fail)
   refine Calls.mono (show Calls prog 289 #[.int .i64 ((1:Nat):Int), .string b, .pointer (some ⟨l,0,none⟩), .pointer (some ⟨m,0,none⟩)] wr (fun e w'=>e= .returned (.tuple #[])∧Below wr.heap.size wr w')from ?_) ?_
   ·by_cases t:1=n % 2
    ·exact rY 1 n b l m _ d.out t
    ·have F:b=(⟨(List.replicate 4096 0).toArray⟩:ByteArray):=by have:=p.out;rw[if_pos (by omega)]at this;exact this
     rw[F];exact rZ 1 n l m _ d.out t
   rintro e Q ⟨rfl,c⟩;have o:=g.size;have z:=d.below c d.lt;have A:=f.below c f.lt;have j:=g.trans (c.mono o);clear c;go_wp2_with fail;go_roundw
   case rel=>exact⟨1+1,by omega,rfl,j,z,A⟩
   case measure=>simp[intOf]
  |2,x=>
   have S:=f.cell (i:=0) rfl;go_wp2_with fail;go_ret;exact⟨rfl,g.out⟩
theorem aQ {s:aF}:(prog.info? 163).map (·.size)=some s.cells.length:=by kernel_rfl
theorem cJ (s:aF):∀v∈s.cells,v.oneCell'=true:=by intro v a;simp[aF.cells]at a;rcases a with rfl|rfl|rfl|rfl|rfl|rfl|rfl<;>rfl
theorem ow {w:World} {b:Nat} {s:aF} (h:ac w b s.cells 163):w.rangeAt b 4 s.geo.cells:=by
 intro j v a
 match j,a with
 |0,a=>simp[aH.cells]at a;subst a;exact h.cell (i:=4) rfl
 |1,a=>simp[aH.cells]at a;subst a;exact h.cell (i:=5) rfl
 |2,a=>simp[aH.cells]at a;subst a;exact h.cell (i:=6) rfl
 |j+3,a=>simp[aH.cells]at a
def dY:List Int:=[8,4,4,8]
theorem jf (w:World):
  Calls prog 253 #[] w fun e w'=>(∃v,e= .returned v∧bC w' v dY)∧Below w.heap.size w w':=by
 go_enter func253,ntmps253;go_wp2_with fail;go_ret;exact⟨⟨_,rfl,bC.blk (xs:=dY) (ac.new w (dY.map (Value.int .i64)) 3) rfl 4⟩,(Below.refl _ _).alloc (Nat.le_refl _) _⟩
theorem C6 {s:aF} (h:eL s):kh dY [s.gen,s.tail,s.epoch,s.clock]:=by
 obtain⟨⟨n,o,p,q,r,t⟩,d,e,f,g,j,k,l,m⟩:=h;have u:(256:Nat)^4=4294967296:=rfl;have v:(256:Nat)^8=18446744073709551616:=rfl;refine⟨rfl,fun i a x b c=> ?_⟩
 match i,b,c with
 |0,b,c=>simp[dY]at b c;subst b;subst c;simp;omega
 |1,b,c=>simp[dY]at b c;subst b;subst c;simp;omega
 |2,b,c=>simp[dY]at b c;subst b;subst c;simp;omega
 |3,b,c=>simp[dY]at b c;subst b;subst c;simp;omega
theorem xr (s:aF):da dY [s.gen,s.tail,s.epoch,s.clock]=beBytes 8 s.gen.toNat++beBytes 4 s.tail.toNat++beBytes 4 s.epoch.toNat++beBytes 8 s.clock.toNat:=by simp[da,dY]
theorem pD (s:aF) (w:World) (P:eL s):
  Calls prog 243 #[s.v] w fun e w'=>e= .returned (.int .i64 0)∧Below w.heap.size w w':=by
 obtain⟨l,tail,epoch,clock,⟨blocks,b,first⟩⟩:=s;obtain⟨hg,G,H,I,J,L,M,N,O⟩:=P;simp only at hg G H I J L M N O;have B:=hid hg;have T:decide (l<1)=false:=decide_eq_false (by omega);have U:decide (1152921504606846976<l)=false:=decide_eq_false (by omega);have W:¬(blocks-4:Int)<tail:=by omega
 have X:¬(4294967295:Int)<epoch:=by omega
 have Y:¬(1099511627776:Int)<clock:=by omega
 have V:decide (tail<0)=false:=decide_eq_false (by omega);clear hg;go_enter func243,ntmps243
 go_wp2_with (first
  |((with_reducible refine ae 163 (.tmp 0) (aF.cells ⟨l,tail,epoch,clock,⟨blocks,b,first⟩⟩) (some 1) ?hgd ?ho ?hd ?hx ?_);(case hgd|ho|hd|hx=>rfl);(intro y w1 E A C F))
  |((with_reducible refine ao 23 (.tmp 4) y 4 (aH.cells ⟨blocks,b,first⟩) _ (some 5) (ow (s:=⟨l,tail,epoch,clock,⟨blocks,b,first⟩⟩) A) underlying23 rfl bG ?hg ?ho ?hds ?hx ?_);(case ho|hg|hds|hx=>rfl))
  |fail)
 refine(fj ⟨blocks,b,first⟩ _ B.out).mono ?_
 rintro e Q ⟨rfl,p⟩;have r:=hid (A.below p F);have t:=hid ((C.mono E).trans (p.mono (Nat.le_trans E (Nat.le_of_lt F))));clear p A C;go_upto_region 2 with fail;refine wp_region_held_drew (S:=fun R=>ac R y (aF.cells ⟨l,tail,epoch,clock,⟨blocks,b,first⟩⟩) 163) (by kernel_rfl) (r.drew) (fun j=> ?_);obtain⟨z,m⟩:∃z,z=Q.drew:=⟨_,rfl⟩;have x:=hid (show ac z y _ 163 from by rw[m];exact r.drew);have o:Hid (Below w.heap.size w z):=hid (by rw[m];exact t.drew);rw[←m];rw[←m]at j;clear m;refine hp 0 ?_ (hy:=by intro w a;(try dsimp only at a);(have c:=a.cell (i:=0) rfl);(have d:=a.cell (i:=1) rfl);(have f:=a.cell (i:=2) rfl);(have g:=a.cell (i:=3) rfl);go_simp;first|done|with_reducible rfl);refine hp 1 ?_ (hy:=by intro w a;(try dsimp only at a);(have c:=a.cell (i:=0) rfl);(have d:=a.cell (i:=1) rfl);(have f:=a.cell (i:=2) rfl);(have g:=a.cell (i:=3) rfl);go_simp;first|done|with_reducible rfl);refine hp 2 ?_ (hy:=by intro w a;(try dsimp only at a);(have c:=a.cell (i:=0) rfl);(have d:=a.cell (i:=1) rfl);(have f:=a.cell (i:=2) rfl);(have g:=a.cell (i:=3) rfl);go_simp;first|done|with_reducible rfl);refine hp 3 ?_ (hy:=by intro w a;(try dsimp only at a);(have c:=a.cell (i:=0) rfl);(have d:=a.cell (i:=1) rfl);(have f:=a.cell (i:=2) rfl);(have g:=a.cell (i:=3) rfl);go_simp;first|done|with_reducible rfl);refine hp 4 ?_ (hy:=by intro w a;(try dsimp only at a);(have c:=a.cell (i:=0) rfl);(have d:=a.cell (i:=1) rfl);(have f:=a.cell (i:=2) rfl);(have g:=a.cell (i:=3) rfl);go_simp;first|done|with_reducible rfl);refine hp 5 ?_ (hy:=by intro w a;(try dsimp only at a);(have c:=a.cell (i:=0) rfl);(have d:=a.cell (i:=1) rfl);(have f:=a.cell (i:=2) rfl);(have g:=a.cell (i:=3) rfl);go_simp;first|done|with_reducible rfl);refine hp 6 ?_ (hy:=by intro w a;(try dsimp only at a);(have c:=a.cell (i:=0) rfl);(have d:=a.cell (i:=1) rfl);(have f:=a.cell (i:=2) rfl);(have g:=a.cell (i:=3) rfl);go_simp;first|done|with_reducible rfl);refine hp 7 ?_ (hy:=by intro w a;(try dsimp only at a);(have c:=a.cell (i:=0) rfl);(have d:=a.cell (i:=1) rfl);(have f:=a.cell (i:=2) rfl);(have g:=a.cell (i:=3) rfl);go_simp;first|done|with_reducible rfl);refine hp 8 ?_ (hy:=by intro w a;(try dsimp only at a);(have c:=a.cell (i:=0) rfl);(have d:=a.cell (i:=1) rfl);(have f:=a.cell (i:=2) rfl);(have g:=a.cell (i:=3) rfl);go_simp;first|done|with_reducible rfl);refine hp 9 ?_ (hy:=by intro w a;(try dsimp only at a);(have c:=a.cell (i:=0) rfl);(have d:=a.cell (i:=1) rfl);(have f:=a.cell (i:=2) rfl);(have g:=a.cell (i:=3) rfl);go_simp;first|done|with_reducible rfl);refine hp 10 ?_ (hy:=by intro w a;(try dsimp only at a);(have c:=a.cell (i:=0) rfl);(have d:=a.cell (i:=1) rfl);(have f:=a.cell (i:=2) rfl);(have g:=a.cell (i:=3) rfl);go_simp;first|done|with_reducible rfl);refine hp 11 ?_ (hy:=by intro w a;(try dsimp only at a);(have c:=a.cell (i:=0) rfl);(have d:=a.cell (i:=1) rfl);(have f:=a.cell (i:=2) rfl);(have g:=a.cell (i:=3) rfl);go_simp;first|done|with_reducible rfl);refine hp 12 ?_ (hy:=by intro w a;(try dsimp only at a);(have c:=a.cell (i:=0) rfl);(have d:=a.cell (i:=1) rfl);(have f:=a.cell (i:=2) rfl);(have g:=a.cell (i:=3) rfl);go_simp;first|done|with_reducible rfl);refine hp 13 ?_ (hy:=by intro w a;(try dsimp only at a);(have c:=a.cell (i:=0) rfl);(have d:=a.cell (i:=1) rfl);(have f:=a.cell (i:=2) rfl);(have g:=a.cell (i:=3) rfl);go_simp;first|done|with_reducible rfl);refine hp 14 ?_ (hy:=by intro w a;(try dsimp only at a);(have c:=a.cell (i:=0) rfl);(have d:=a.cell (i:=1) rfl);(have f:=a.cell (i:=2) rfl);(have g:=a.cell (i:=3) rfl);go_simp;first|done|with_reducible rfl);refine hp 15 ?_ (hy:=by intro w a;(try dsimp only at a);(have c:=a.cell (i:=0) rfl);(have d:=a.cell (i:=1) rfl);(have f:=a.cell (i:=2) rfl);(have g:=a.cell (i:=3) rfl);go_simp;first|done|with_reducible rfl);refine hp 16 ?_ (hy:=by intro w a;(try dsimp only at a);(have c:=a.cell (i:=0) rfl);(have d:=a.cell (i:=1) rfl);(have f:=a.cell (i:=2) rfl);(have g:=a.cell (i:=3) rfl);go_simp;first|done|with_reducible rfl);refine wpAnyH_take (i:=17) (v:= .agg (aH.cells ⟨blocks,b,first⟩).toArray) rfl (by kernel_rfl) (by kernel_rfl) (by kernel_rfl) (fun _ _ _ h=>h) (yieldsIf_load_mid (by rfl) 23 (.tmp 25) rfl y 4 rfl (aH.cells ⟨blocks,b,first⟩) _ (fun w h=>ow (s:=⟨l,tail,epoch,clock,⟨blocks,b,first⟩⟩) h) underlying23 rfl bG) (by assumption) ?_
 (try go_frame)
 refine wpAnyH_ready (rs:=[18]) (by kernel_rfl) (by simp) ?_;refine AllReadyH.cons rfl (fun K D=> ?_) AllReadyH.nil;go_simp
 refine(iw ⟨blocks,b,first⟩ _ B.out).mono ?_
 rintro e w3 ⟨rfl,q⟩;have n:=hid (x.below q x.lt);have u:=hid (o.trans (q.mono o.size));clear q
 (try go_wp2_with fail)
 refine D.out _ _ (n.out) (fun k=> ?_);clear D K j;have j:=k;clear k
 (try go_frame)
 refine hp 19 ?_ (hy:=by intro w a;(try dsimp only at a);(have c:=a.cell (i:=0) rfl);(have d:=a.cell (i:=1) rfl);(have f:=a.cell (i:=2) rfl);(have g:=a.cell (i:=3) rfl);go_simp;first|done|with_reducible rfl);refine hp 20 ?_ (hy:=by intro w a;(try dsimp only at a);(have c:=a.cell (i:=0) rfl);(have d:=a.cell (i:=1) rfl);(have f:=a.cell (i:=2) rfl);(have g:=a.cell (i:=3) rfl);go_simp;first|done|with_reducible rfl);refine hp 21 ?_ (hy:=by intro w a;(try dsimp only at a);(have c:=a.cell (i:=0) rfl);(have d:=a.cell (i:=1) rfl);(have f:=a.cell (i:=2) rfl);(have g:=a.cell (i:=3) rfl);go_simp;first|done|with_reducible rfl);refine wpAnyH_done (by kernel_rfl) ?_ _;have Z:=n.cell (i:=2) rfl;have q3:=n.cell (i:=3) rfl;have q6:=n.cell (i:=6) rfl;go_wp2_with fail;go_ret;exact⟨rfl,u.out⟩
theorem r4 (s:aF) (w:World) (hs:eL s):
  Calls prog 193 #[s.v] w fun e w'=>∃r,e= .returned (.tuple #[.string r, .int .i64 0])∧ah r (cG s)∧Below w.heap.size w w':=by
 go_enter func193,ntmps193
 go_wp2_with (first
  |((with_reducible refine ae 163 (.tmp 0) s.cells (some 1) ?hgd ?ho ?hd ?hx ?_);(case hgd|ho|hd|hx=>rfl);(intro b1 w1 l1 B1 e1 z1))
  |((with_reducible refine ao 163 (.tmp 1) b1 0 s.cells _ (some 10) B1.range underlying163 rfl aQ ?hg ?ho ?hds ?hx ?_);(case ho|hg|hds|hx=>rfl))
  |fail)
 refine(pD s _ hs).mono ?_
 rintro e w2 ⟨rfl,Z⟩;have aA:=hid (B1.below Z z1);have a4:=hid ((e1.mono l1).trans (Z.mono (Nat.le_trans l1 (Nat.le_of_lt z1))));clear Z B1 e1;go_upto_region 4 with fail;refine wp_region_held_drew (S:=fun wx=>ac wx b1 s.cells 163) (by kernel_rfl) (aA.drew) (fun c=> ?_);obtain⟨U,R⟩:∃U,U=w2.drew:=⟨_,rfl⟩;have F:=hid (show ac U b1 s.cells 163 from by rw[R];exact aA.drew);have k:Hid (Below w.heap.size w U):=hid (by rw[R];exact a4.drew);rw[←R];rw[←R]at c;clear R;refine hp 1 ?_ (hy:=by intro w a;(try dsimp only at a);(have p:=a.cell (i:=0) rfl);(have u:=a.cell (i:=1) rfl);(have x:=a.cell (i:=2) rfl);(have y:=a.cell (i:=3) rfl);go_simp;first|done|with_reducible rfl);refine hp 2 ?_ (hy:=by intro w a;(try dsimp only at a);(have p:=a.cell (i:=0) rfl);(have u:=a.cell (i:=1) rfl);(have x:=a.cell (i:=2) rfl);(have y:=a.cell (i:=3) rfl);go_simp;first|done|with_reducible rfl);refine hp 3 ?_ (hy:=by intro w a;(try dsimp only at a);(have p:=a.cell (i:=0) rfl);(have u:=a.cell (i:=1) rfl);(have x:=a.cell (i:=2) rfl);(have y:=a.cell (i:=3) rfl);go_simp;first|done|with_reducible rfl);refine hp 4 ?_ (hy:=by intro w a;(try dsimp only at a);(have p:=a.cell (i:=0) rfl);(have u:=a.cell (i:=1) rfl);(have x:=a.cell (i:=2) rfl);(have y:=a.cell (i:=3) rfl);go_simp;first|done|with_reducible rfl);refine hp 5 ?_ (hy:=by intro w a;(try dsimp only at a);(have p:=a.cell (i:=0) rfl);(have u:=a.cell (i:=1) rfl);(have x:=a.cell (i:=2) rfl);(have y:=a.cell (i:=3) rfl);go_simp;first|done|with_reducible rfl);refine hp 6 ?_ (hy:=by intro w a;(try dsimp only at a);(have p:=a.cell (i:=0) rfl);(have u:=a.cell (i:=1) rfl);(have x:=a.cell (i:=2) rfl);(have y:=a.cell (i:=3) rfl);go_simp;first|done|with_reducible rfl);refine hp 7 ?_ (hy:=by intro w a;(try dsimp only at a);(have p:=a.cell (i:=0) rfl);(have u:=a.cell (i:=1) rfl);(have x:=a.cell (i:=2) rfl);(have y:=a.cell (i:=3) rfl);go_simp;first|done|with_reducible rfl);refine hp 8 ?_ (hy:=by intro w a;(try dsimp only at a);(have p:=a.cell (i:=0) rfl);(have u:=a.cell (i:=1) rfl);(have x:=a.cell (i:=2) rfl);(have y:=a.cell (i:=3) rfl);go_simp;first|done|with_reducible rfl);refine wpAnyH_ready (rs:=[0,9]) (by kernel_rfl) (by simp) ?_;refine AllReadyH.cons rfl (fun K A=> ?_) (AllReadyH.cons rfl (fun K A=> ?_) AllReadyH.nil)
 ·go_simp
  refine(jf _).mono ?_
  rintro e wa ⟨⟨vw,rfl,Q⟩,B⟩;have h:=hid (F.below B F.lt);have d:=hid (k.trans (B.mono k.size));have Y:=hid Q
  skip
  clear B Q
  (try go_wp2_with fail)
  refine A.out _ _ (h.out) (fun b=> ?_);clear A K c;have c:=b;clear b
  (try go_frame)
  refine wpAnyH_ready (rs:=[9]) (by kernel_rfl) (by simp) ?_;refine AllReadyH.cons rfl (fun K A=> ?_) AllReadyH.nil;go_simp;obtain⟨wb,l⟩:∃w4,w4=wa.alloc (Obj.cells #[Value.int IntKind.i64 s.gen,Value.int IntKind.i64 s.tail,Value.int IntKind.i64 s.epoch,Value.int IntKind.i64 s.clock] 3):=⟨_,rfl⟩;rw[←l];have C:Below wa.heap.size wa wb:=by rw[l];exact(Below.refl _ _).alloc (Nat.le_refl _) _
  have B4:ac wb wa.heap.size [.int .i64 s.gen, .int .i64 s.tail, .int .i64 s.epoch, .int .i64 s.clock] 3:=by rw[l];exact ac.new wa _ _
  have I:=hid B4;have j:=hid (h.below C h.lt);have f:=hid (d.trans (C.mono d.size));have D:=hid (Y.below C (Nat.le_refl _));clear C B4 l
  (try go_wp2_with fail)
  refine A.out _ _ (j.out) (fun b=> ?_);clear A K c;have c:=b;clear b
  (try go_frame)
  refine wpAnyH_ready (rs:=[10]) (by kernel_rfl) (by simp) ?_;refine AllReadyH.cons rfl (fun K A=> ?_) AllReadyH.nil;go_simp
  refine(fc _ _ dY [s.gen,s.tail,s.epoch,s.clock] _ D.out (bC.blk (xs:=[s.gen,s.tail,s.epoch,s.clock]) I.out rfl 4) (by show 0<4;decide) (by show 4≤16;decide) (C6 hs)).mono ?_
  rintro e wp ⟨r,rfl,tr,E⟩;have H:=hid (j.below E j.lt);have o:=hid (f.trans (E.mono f.size));have L:=hid (show ah r (beBytes 8 s.gen.toNat++beBytes 4 s.tail.toNat++beBytes 4 s.epoch.toNat++beBytes 8 s.clock.toNat)from by rw[←xr];exact tr);clear E tr
  (try go_wp2_with fail)
  refine A.out _ _ (H.out) (fun b=> ?_);clear A K c;have c:=b;clear b
  (try go_frame)
  refine hp 11 ?_ (hy:=by intro w a;(try dsimp only at a);(have p:=a.cell (i:=0) rfl);(have u:=a.cell (i:=1) rfl);(have x:=a.cell (i:=2) rfl);(have y:=a.cell (i:=3) rfl);go_simp;first|done|with_reducible rfl);refine hp 12 ?_ (hy:=by intro w a;(try dsimp only at a);(have p:=a.cell (i:=0) rfl);(have u:=a.cell (i:=1) rfl);(have x:=a.cell (i:=2) rfl);(have y:=a.cell (i:=3) rfl);go_simp;first|done|with_reducible rfl);refine hp 13 ?_ (hy:=by intro w a;(try dsimp only at a);(have p:=a.cell (i:=0) rfl);(have u:=a.cell (i:=1) rfl);(have x:=a.cell (i:=2) rfl);(have y:=a.cell (i:=3) rfl);go_simp;first|done|with_reducible rfl);refine hp 14 ?_ (hy:=by intro w a;(try dsimp only at a);(have p:=a.cell (i:=0) rfl);(have u:=a.cell (i:=1) rfl);(have x:=a.cell (i:=2) rfl);(have y:=a.cell (i:=3) rfl);go_simp;first|done|with_reducible rfl);refine hp 15 ?_ (hy:=by intro w a;(try dsimp only at a);(have p:=a.cell (i:=0) rfl);(have u:=a.cell (i:=1) rfl);(have x:=a.cell (i:=2) rfl);(have y:=a.cell (i:=3) rfl);go_simp;first|done|with_reducible rfl);refine wpAnyH_done (by kernel_rfl) ?_ _
  go_wp2_with (first
   |((with_reducible refine ao 23 (.tmp 30) b1 4 s.geo.cells _ (some 31) (ow H.out) underlying23 rfl bG ?hg ?ho ?hds ?hx ?_);(case ho|hg|hds|hx=>rfl))
   |fail)
  refine(mJ s.geo _ hs.geo).mono ?_
  rintro e w6 ⟨g,rfl,tg,N⟩;have J:=hid tg;have m:=hid (o.trans (N.mono o.size));clear tg N;have hr:r.size=24:=by rw[L.size];simp[beBytes_length]
  have hg:g.size=12:=by rw[J.size,js]
  go_upto_region 7 with fail;obtain⟨t,T⟩:∃t,(⟨#[107,101,101,112,115,97,107,101,49]⟩:ByteArray)++r++g=t:=⟨_,rfl⟩;rw[T];have ad:t.size=45:=by rw[←T,ByteArray.size_append,ByteArray.size_append,hr,hg];rfl
  have M:=hid (show ah t (fi s) by rw[←T];exact((show ah (⟨#[107,101,101,112,115,97,107,101,49]⟩:ByteArray) lU from rfl).append L.out).append J.out);clear T hr hg;go_wp2_with fail
  refine(ma t _ _ (by omega)).mono ?_
  rintro e w7 ⟨q,rfl,tq,O⟩;have hq:q.size=32:=by rw[tq.size,cT]
  have W:=hid (show ah q (eh (fi s))from tq.cast (by rw[show t.data.toList= _ from M.out]));have n:=hid (m.trans (O.mono m.size));clear tq O;go_wp2_with fail
  refine(fV (t++q) 4096 _ (by rw[ByteArray.size_append,ad,hq];decide) (by decide)).mono ?_
  rintro e w8 ⟨z,rfl,tz,P⟩;have G:=hid (n.trans (P.mono n.size));have X:=hid (show ah z (cG s)from tz.cast (by unfold cG;rw[show(t++q).data.toList= _ from M.append W.out]));clear tz P;go_wp2_with fail;go_ret2;exact⟨z,rfl,X.out,G.out⟩
 ·go_simp
  obtain⟨wa,l⟩:∃w4,w4=U.alloc (Obj.cells #[Value.int IntKind.i64 s.gen,Value.int IntKind.i64 s.tail,Value.int IntKind.i64 s.epoch,Value.int IntKind.i64 s.clock] 3):=⟨_,rfl⟩;rw[←l];have C:Below U.heap.size U wa:=by rw[l];exact(Below.refl _ _).alloc (Nat.le_refl _) _
  have B4:ac wa U.heap.size [.int .i64 s.gen, .int .i64 s.tail, .int .i64 s.epoch, .int .i64 s.clock] 3:=by rw[l];exact ac.new U _ _
  have V:=hid B4;have h:=hid (F.below C F.lt);have d:=hid (k.trans (C.mono k.size))
  skip
  clear C B4 l
  (try go_wp2_with fail)
  refine A.out _ _ (h.out) (fun b=> ?_);clear A K c;have c:=b;clear b
  (try go_frame)
  refine wpAnyH_ready (rs:=[0]) (by kernel_rfl) (by simp) ?_;refine AllReadyH.cons rfl (fun K A=> ?_) AllReadyH.nil;go_simp
  refine(jf _).mono ?_
  rintro e wb ⟨⟨vw,rfl,Q⟩,B⟩;have j:=hid (h.below B h.lt);have f:=hid (d.trans (B.mono d.size));have D:=hid Q;have I:=hid (V.below B V.lt);clear B Q
  (try go_wp2_with fail)
  refine A.out _ _ (j.out) (fun b=> ?_);clear A K c;have c:=b;clear b
  (try go_frame)
  refine wpAnyH_ready (rs:=[10]) (by kernel_rfl) (by simp) ?_;refine AllReadyH.cons rfl (fun K A=> ?_) AllReadyH.nil;go_simp
  refine(fc _ _ dY [s.gen,s.tail,s.epoch,s.clock] _ D.out (bC.blk (xs:=[s.gen,s.tail,s.epoch,s.clock]) I.out rfl 4) (by show 0<4;decide) (by show 4≤16;decide) (C6 hs)).mono ?_
  rintro e wp ⟨r,rfl,tr,E⟩;have H:=hid (j.below E j.lt);have o:=hid (f.trans (E.mono f.size));have L:=hid (show ah r (beBytes 8 s.gen.toNat++beBytes 4 s.tail.toNat++beBytes 4 s.epoch.toNat++beBytes 8 s.clock.toNat)from by rw[←xr];exact tr);clear E tr
  (try go_wp2_with fail)
  refine A.out _ _ (H.out) (fun b=> ?_);clear A K c;have c:=b;clear b
  (try go_frame)
  refine hp 11 ?_ (hy:=by intro w a;(try dsimp only at a);(have p:=a.cell (i:=0) rfl);(have u:=a.cell (i:=1) rfl);(have x:=a.cell (i:=2) rfl);(have y:=a.cell (i:=3) rfl);go_simp;first|done|with_reducible rfl);refine hp 12 ?_ (hy:=by intro w a;(try dsimp only at a);(have p:=a.cell (i:=0) rfl);(have u:=a.cell (i:=1) rfl);(have x:=a.cell (i:=2) rfl);(have y:=a.cell (i:=3) rfl);go_simp;first|done|with_reducible rfl);refine hp 13 ?_ (hy:=by intro w a;(try dsimp only at a);(have p:=a.cell (i:=0) rfl);(have u:=a.cell (i:=1) rfl);(have x:=a.cell (i:=2) rfl);(have y:=a.cell (i:=3) rfl);go_simp;first|done|with_reducible rfl);refine hp 14 ?_ (hy:=by intro w a;(try dsimp only at a);(have p:=a.cell (i:=0) rfl);(have u:=a.cell (i:=1) rfl);(have x:=a.cell (i:=2) rfl);(have y:=a.cell (i:=3) rfl);go_simp;first|done|with_reducible rfl);refine hp 15 ?_ (hy:=by intro w a;(try dsimp only at a);(have p:=a.cell (i:=0) rfl);(have u:=a.cell (i:=1) rfl);(have x:=a.cell (i:=2) rfl);(have y:=a.cell (i:=3) rfl);go_simp;first|done|with_reducible rfl);refine wpAnyH_done (by kernel_rfl) ?_ _
  go_wp2_with (first
   |((with_reducible refine ao 23 (.tmp 30) b1 4 s.geo.cells _ (some 31) (ow H.out) underlying23 rfl bG ?hg ?ho ?hds ?hx ?_);(case ho|hg|hds|hx=>rfl))
   |fail)
  refine(mJ s.geo _ hs.geo).mono ?_
  rintro e w6 ⟨g,rfl,tg,N⟩;have J:=hid tg;have m:=hid (o.trans (N.mono o.size));clear tg N;have hr:r.size=24:=by rw[L.size];simp[beBytes_length]
  have hg:g.size=12:=by rw[J.size,js]
  go_upto_region 7 with fail;obtain⟨t,T⟩:∃t,(⟨#[107,101,101,112,115,97,107,101,49]⟩:ByteArray)++r++g=t:=⟨_,rfl⟩;rw[T];have ad:t.size=45:=by rw[←T,ByteArray.size_append,ByteArray.size_append,hr,hg];rfl
  have M:=hid (show ah t (fi s) by rw[←T];exact((show ah (⟨#[107,101,101,112,115,97,107,101,49]⟩:ByteArray) lU from rfl).append L.out).append J.out);clear T hr hg;go_wp2_with fail
  refine(ma t _ _ (by omega)).mono ?_
  rintro e w7 ⟨q,rfl,tq,O⟩;have hq:q.size=32:=by rw[tq.size,cT]
  have W:=hid (show ah q (eh (fi s))from tq.cast (by rw[show t.data.toList= _ from M.out]));have n:=hid (m.trans (O.mono m.size));clear tq O;go_wp2_with fail
  refine(fV (t++q) 4096 _ (by rw[ByteArray.size_append,ad,hq];decide) (by decide)).mono ?_
  rintro e w8 ⟨z,rfl,tz,P⟩;have G:=hid (n.trans (P.mono n.size));have X:=hid (show ah z (cG s)from tz.cast (by unfold cG;rw[show(t++q).data.toList= _ from M.append W.out]));clear tz P;go_wp2_with fail;go_ret2;exact⟨z,rfl,X.out,G.out⟩
def bR (sv:Value) (db:Nat) (last:aF):List Value:=[sv, .pointer (some ⟨db,0,none⟩)]++last.cells++[.bool false]
theorem mK (f db:Nat) (sv:Value) (d:am) (l s:aF) (w:World) (h:aC w db d) (hj:ac w f (bR sv db l) 165) (a2:f∉d.foot db) (hs:eL s)
  (hd:d.down=false) (hl:d.left=0) (hc:d.cs.length<4096) (hb:d.bs.length≤1024) (m:2≤d.bs.length) (a0:∀(j:Nat) p,d.cs[j]?=some p→0≤p.1∧p.1<d.bs.length):
  Calls prog 102 #[.pointer (some ⟨f,0,none⟩),s.v] w fun e w'=>e= .returned (.int .i64 0)∧∃Q q,Q=(({d with cs:=d.cs++[(s.gen % 2,q)]}:am)).flushed∧ah q (cG s)∧aC w' db Q∧ac w' f (bR sv db s) 165∧af (f::d.foot db) w w'∧∀x,x∈Q.foot db→x∈d.foot db∨w.heap.size≤x:=by
 have cm:∀(fn:Fn) (first aq:Array Value) (w:World),(Instr.makeFunc fn first aq).run prog w= .ok (.func fn first aq) w:=fun _ _ _ _=>rfl
 have HH:=hid h;have HJ:=hid hj;have O:=hid a2;have HS:=hid hs;have HD:=hid hd;have bm:=hid hl;have HC:=hid hc;have HB:=hid (And.intro hb m);have bk:=hid a0;clear h hj a2 hs hd hl hc hb m a0;go_enter func102,ntmps102
 go_wp2_with (first
  |((with_reducible refine ae 163 (.tmp 1) s.cells (some 3) ?hgd ?ho ?hd ?hx ?_);(case hgd|ho|hd|hx=>rfl);(intro P w1 l1 B1 e1 z1))
  |((with_reducible refine ao 163 (.tmp 3) P 0 s.cells _ (some 9) B1.range underlying163 rfl aQ ?hg ?ho ?hds ?hx ?_);(case ho|hg|hds|hx=>rfl))
  |fail)
 refine(r4 s _ HS.out).mono ?_
 rintro e w2 ⟨q,rfl,tq,m⟩;have k:=(e1.mono l1).trans (m.mono (Nat.le_trans l1 (Nat.le_of_lt z1)));have an:=hid tq;have F:=hid (B1.below m z1);have bl:=hid l1;have J:=hid (HJ.below k HJ.lt);have V:=hid (HH.below k);have N:=hid k;clear B1 e1 z1 l1 m k tq;go_upto_region 4 with fail;refine wp_region_held_drew (S:=fun wx=>wx.cell? ⟨P,0,none⟩=some (.int .i64 s.gen)∧wx.cell? ⟨f,1,none⟩=some (.pointer (some ⟨db,0,none⟩))) (by kernel_rfl) (⟨F.cell (i:=0) rfl,J.cell (i:=1) rfl⟩) (fun b=> ?_);obtain⟨T,g⟩:∃T,T=w2.drew:=⟨_,rfl⟩;have z:=hid (show ac T P s.cells 163 from by rw[g];exact F.drew);have B:=hid (show ac T f (bR sv db l) 165 from by rw[g];exact J.drew);have I:=hid (show aC T db d from by rw[g];exact V.below (Below.refl _ _).drew);have u:=hid (show Below w.heap.size w T from by rw[g];exact N.drew);rw[←g];rw[←g]at b;clear g;refine hp 0 ?_;refine hp 1 ?_;refine hp 2 ?_;refine hp 3 ?_;refine hp 5 ?_;refine hp 7 ?_;refine hp 8 ?_;refine hp 9 ?_;refine hp 10 ?_;refine hp 11 ?_;refine wpAnyH_ready (rs:=[4]) (by kernel_rfl) (by simp) ?_;refine AllReadyH.cons rfl (fun K C=> ?_) AllReadyH.nil;go_simp
 refine(vL s.gen _ (by have:=HS.g0;omega)).mono ?_
 rintro e w' ⟨rfl,rfl⟩
 (try go_wp2_with fail)
 refine C.out _ _ (⟨z.cell (i:=0) rfl,B.cell (i:=1) rfl⟩) (fun a=> ?_);clear C K b;have b:=a;clear a
 (try go_frame)
 refine wpAnyH_ready (rs:=[6]) (by kernel_rfl) (by simp) ?_;refine AllReadyH.cons rfl (fun K C=> ?_) AllReadyH.nil;go_simp
 refine(fZ f (s.gen % 2) q _).mono ?_
 rintro e R ⟨⟨p3,p4,p5,rfl,bA,g3,g4,g5⟩,n⟩;have y:=hid (z.below n z.lt);have A:=hid (B.below n B.lt);have W:=hid (I.below n);have r:=hid (u.trans (n.mono u.size));have Z:=hid bA;have be:=hid (And.intro g3 (And.intro g4 g5));have bn:=hid n.size;clear bA g3 g4 g5 n
 (try go_wp2_with fail)
 refine C.out _ _ (⟨y.cell (i:=0) rfl,A.cell (i:=1) rfl⟩) (fun a=> ?_);clear C K b;have b:=a;clear a
 (try go_frame)
 refine wpAnyH_ready (rs:=[12]) (by kernel_rfl) (by simp) ?_;refine AllReadyH.cons rfl (fun K C=> ?_) AllReadyH.nil;go_simp;obtain⟨wb,E⟩:∃wb,wb=R.alloc (Obj.cells #[.func (.func 187) #[] #[.pointer (some ⟨p3,0,none⟩), .pointer (some ⟨p4,0,none⟩), .pointer (some ⟨p5,0,none⟩)], .func (.func 100) #[.pointer (some ⟨db,0,none⟩)] #[]] 42):=⟨_,rfl⟩;rw[←E];have o:Below R.heap.size R wb:=by rw[E];exact(Below.refl _ _).alloc (Nat.le_refl _) _
 have M:ac wb R.heap.size [.func (.func 187) #[] #[.pointer (some ⟨p3,0,none⟩), .pointer (some ⟨p4,0,none⟩), .pointer (some ⟨p5,0,none⟩)], .func (.func 100) #[.pointer (some ⟨db,0,none⟩)] #[]] 42:=by rw[E];exact ac.new R [.func (.func 187) #[] #[.pointer (some ⟨p3,0,none⟩), .pointer (some ⟨p4,0,none⟩), .pointer (some ⟨p5,0,none⟩)], .func (.func 100) #[.pointer (some ⟨db,0,none⟩)] #[]] 42
 have G:=hid (y.below o y.lt);have c:=hid (A.below o A.lt);have X:=hid (W.below o);have t:=hid (r.trans (o.mono r.size));have Y:=hid M;have ad:=hid (Z.below o);clear M o E
 (try go_wp2_with fail)
 refine C.out _ _ (⟨G.cell (i:=0) rfl,c.cell (i:=1) rfl⟩) (fun a=> ?_);clear C K b;have b:=a;clear a
 (try go_frame)
 refine wpAnyH_ready (rs:=[13]) (by kernel_rfl) (by simp) ?_;refine AllReadyH.cons rfl (fun K C=> ?_) AllReadyH.nil;go_simp
 refine(Av f db R.heap.size 2 p3 p4 p5 42 d (s.gen % 2) q _ X.out Y.out (c.cell (i:=1) rfl) c.lt ad.out (by
  intro x hx D;have cl:=I.lt x D;have h1:=be.out;have h2:=bn.out
  rcases hx with rfl|rfl|rfl|rfl|rfl
  ·omega
  ·exact O.out D
  ·omega
  ·omega
  ·omega) HD.out bm.out HC.out HB.out.1 bk.out (by have:=HS.g0;omega) (by have:=HB.out.2;omega) (by rw[an.size,nL])).mono ?_
 rintro e wc ⟨rfl,Q,aA,ht⟩;have U:=hid (show P∉d.foot db from fun D=>by have:=HH.lt P D;have:=bl.out;omega);have H:=hid (ht.turned.blk G.out U.out);have L:=hid (ht.turned.blk c.out O.out);have HT:=hid ht;have bd:=hid aA;clear ht aA
 (try go_wp2_with fail)
 refine C.out _ _ (⟨H.cell (i:=0) rfl,L.cell (i:=1) rfl⟩) (fun a=> ?_);clear C K b;have b:=a;clear a
 (try go_frame)
 refine hp 14 ?_;refine wpAnyH_done (by kernel_rfl) ?_ _;have a1:2+s.cells.length≤(bR sv db l).length:=by show 9≤10;decide
 go_wp2_with (first
  |((with_reducible refine ao 163 (.tmp 3) P 0 s.cells _ (some 34) H.out.range underlying163 rfl aQ ?hg ?ho ?hds ?hx ?_);(case ho|hg|hds|hx=>rfl))
  |((with_reducible refine lA 163 (.tmp 36) (.tmp 34) f 2 s.cells (bR sv db l) 165 L.out a1 aQ (cJ _) ?hgd ?ho ?hx ?hy ?_);(case hgd|ho|hx|hy=>rfl);(intro we Be oe))
  |fail)
 go_ret;have ck:=c.lt;have t1:af (f::d.foot db) w wb:=af.of_below t.out (Nat.le_refl _);have t2:af (f::d.foot db) wb wc:=HT.turned.mono (fun x hx=>List.mem_cons_of_mem _ hx);have t3:af (f::d.foot db) wc we:=oe.turned (by simp);have bv:=t.size;have bt:f∉Q.foot db:=fun D=>(HT.foot f D).elim O.out (fun h9=>by omega)
 refine⟨rfl,Q,q,bd.out,an.out,HT.at'.turned (oe.turned (S:=[f]) (by simp)) (fun x hx D=>by simp at D;subst D;exact bt hx),Be,t1.trans (t2.trans t3),fun x hx=>(HT.foot x hx).elim .inl (fun h9=> .inr (Nat.le_trans bv h9))⟩
structure mL (w:World) (db pf pt pd:Nat) (a z:Int):Prop where
 f:ac w pf [.int .i64 a] 3
 t:ac w pt [.int .i64 z] 3
 d:ac w pd [.pointer (some ⟨db,0,none⟩)] 25
theorem mL.below {w i:World} {b e g c:Nat} {a z:Int} (h:mL w b e g c a z) (hb:Below w.heap.size w i):mL i b e g c a z:=
 ⟨h.f.below hb h.f.lt,h.t.below hb h.t.lt,h.d.below hb h.d.lt⟩
theorem r7 (c:Nat) (a z:Int) (w:World):
  Calls prog 95 #[.pointer (some ⟨c,0,none⟩), .int .i64 a, .int .i64 z] w fun e w'=>(∃m n l,e= .returned (.func (.func 185) #[] #[.pointer (some ⟨m,0,none⟩), .pointer (some ⟨n,0,none⟩), .pointer (some ⟨l,0,none⟩)])∧mL w' c m n l a z)∧Below w.heap.size w w':=by
 have x:∀(g:Fn) (first b:Array Value) (w:World),(Instr.makeFunc g first b).run prog w= .ok (.func g first b) w:=fun _ _ _ _=>rfl
 go_enter func95,ntmps95
 go_wp2_with (first
  |((with_reducible refine aO 25 (.tmp 0) (.pointer (some ⟨c,0,none⟩)) rfl (some 3) ?hgd ?ho ?hd ?hx ?_);(case hgd|ho|hd|hx=>rfl);(intro t y i q u o))
  |((with_reducible refine aO 3 (.tmp 1) (.int .i64 a) rfl (some 4) ?hgd ?ho ?hd ?hx ?_);(case hgd|ho|hd|hx=>rfl);(intro b2 A j r f p))
  |((with_reducible refine aO 3 (.tmp 2) (.int .i64 z) rfl (some 5) ?hgd ?ho ?hd ?hx ?_);(case hgd|ho|hd|hx=>rfl);(intro b3 B k s d C))
  |fail)
 go_ret;have h:w.heap.size≤b2:=Nat.le_trans i (Nat.le_of_lt (Nat.lt_of_lt_of_le o j));have v:w.heap.size≤b3:=Nat.le_trans h (Nat.le_of_lt (Nat.lt_of_lt_of_le p k));exact⟨⟨b2,b3,t,rfl,⟨r.below d (Nat.lt_of_lt_of_le p k),s,(q.below f (Nat.lt_of_lt_of_le o j)).below d (by omega)⟩⟩,((u.mono i).trans (f.mono h)).trans (d.mono v)⟩
theorem qL (N:Value) (u F G E:Nat) (d:am) (a z:Nat) (w:World) (h:aC w u d) (hu:mL w u F G E a z) (x:a≤z) (D:z≤d.bs.length)
  (hd:d.down=false) (hc:d.cs.length≤4096) (hb:d.bs.length≤1024) (j:∀i,a≤i→i<z→d.shown i=(⟨(List.replicate 4096 0).toArray⟩:ByteArray)):
  Calls prog 185 #[N, .pointer (some ⟨F,0,none⟩), .pointer (some ⟨G,0,none⟩), .pointer (some ⟨E,0,none⟩)] w fun e w'=>e= .returned (.tuple #[])∧Below w.heap.size w w':=by
 have J:=hid h;have K:=hid hu;have I:=hid hd;have H:=hid hc;have A:=hid hb;have B:=hid D;have c:=kq;obtain⟨nb,p⟩:∃nb,(⟨(List.replicate 4096 0).toArray⟩:ByteArray)=nb:=⟨_,rfl⟩;rw[p]at j c;have s:=hid j;have l:=hid c;have L:=hu.f.cell (i:=0) rfl;clear h hu hd hc hb D j c p;go_enter func185,ntmps185;go_wp2_with fail;clear L;go_loopw [5] (fun v wr=>∃k:Nat,a≤k∧k≤z∧v= .int .i64 k∧Below w.heap.size w wr) (fun v _=>z-(intOf v).toNat)
 case atStart=>exact⟨a,Nat.le_refl _,x,rfl,Below.refl _ _⟩
 case round=>
  obtain⟨k,y,Q,rfl,b⟩:=hrel;have g:=hid b;have m:=hid (K.below b);have r:=hid (J.below b);clear b;have O:=m.t.cell (i:=0) rfl;have P:=m.d.cell (i:=0) rfl
  by_cases o:k<z
  ·have C:(k:Int)<z:=by omega
   have M:(k:Int)≤1024:=by have:=B.out;have:=A.out;omega
   go_wp2_with fail
   refine(eX u d _ r.out I.out k (Nat.lt_of_lt_of_le o B.out) H.out A.out).mono ?_
   rintro e w' ⟨rfl,rfl⟩;rw[s.out k y o];go_wp2_with fail
   refine(l.out _).mono ?_
   rintro e R ⟨rfl,n⟩;have q:=hid (g.trans (n.mono g.size));clear n;go_wp2_with fail;go_roundw
   case rel=>exact⟨k+1,by omega,by omega,by go_num,q.out⟩
   case measure=>simp[intOf];omega
  ·obtain rfl:k=z:=by omega
   go_wp2_with fail;go_end0;exact⟨rfl,g.out⟩
end Go.Proofs.YtadooplpfhdhcaaGreat
