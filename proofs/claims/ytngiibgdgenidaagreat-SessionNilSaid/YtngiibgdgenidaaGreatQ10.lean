/- Keys' places (chapter 11): Put, Empty, Take, Pick; a text with noughts behind it (chapter 1). Superblocks (chapter 10): Check, widths, Put, of a superblock that may be. A journal's commit (chapter 25), of a disk that has power. -/
import Derived.Test.YtngiibgdgenidaaGreatQ6
import Derived.Test.YtngiibgdgenidaaGreatQ9
import Derived.Test.YtngiibgdgenidaaGreatQ8
import Derived.Test.YtngiibgdgenidaaGreatQ7
import Derived.Test.YtngiibgdgenidaaGreatQ4
set_option linter.unusedSimpArgs false
set_option linter.unusedVariables false
set_option maxRecDepth 100000
set_option maxHeartbeats 4000000
namespace Go.Proofs.YtngiibgdgenidaaGreat
open Go Go.RowKit
theorem gv (s:ByteArray) (n:Nat) (w:World) (h:s.size≤n) (hn:n≤65536):
  Calls Tryz.prog 181 #[.string s, .int .i64 (n:Int)] w fun e w'=>∃r,e= .returned (.tuple #[.string r, .int .i64 0])∧ak r (ke s.data.toList n)∧Below w.heap.size w w':=by
 have h1:¬(n:Int)<s.size:=by omega
 have h2:¬(65536:Int)<n:=by omega
 go_enter Tryz.func181,Tryz.ntmps181
 go_wp2_with fail
 obtain⟨m,hm⟩:∃m:Nat,m+s.size=n:=⟨n-s.size,by omega⟩
 rw[show(n:Int)-(s.size:Int)=(m:Int) by omega]
 refine(jh m _ (by omega)).mono ?_
 rintro e w1 ⟨r,rfl,tr,hb⟩
 have hr:r.size=m:=by rw[tr.size];simp
 have HM:=Lib.hid hm
 have HR:=Lib.hid tr
 clear tr h h1
 have hsz:(s.size:Int)+r.size≤65536:=by omega
 clear hm
 go_wp2_with fail
 go_ret2
 refine⟨_,rfl,((ak.self s).append HR.out).cast ?_,hb⟩
 unfold ke
 have:s.data.toList.length=s.size:=rfl
 rw[this,show n-s.size=m by have:=HM.out;omega]
theorem iK (w:World):
  Calls Tryz.prog 150 #[] w fun e w'=>e= .returned (.string (⟨(List.replicate 4096 0).toArray⟩:ByteArray))∧Below w.heap.size w w':=by
 go_enter Tryz.func150,Tryz.ntmps150
 go_wp2_with fail
 refine(jh 4096 _ (by decide)).mono ?_
 rintro e w1 ⟨r,rfl,tr,hb⟩
 obtain rfl:r=(⟨(List.replicate 4096 0).toArray⟩:ByteArray):=tr.of
 go_wp2_with fail
 go_ret
 exact⟨rfl,hb⟩
theorem jL (n:Nat) (key:ByteArray) (w:World) (hn:n<4294967296) (hk:key.size=32):
  Calls Tryz.prog 151 #[.int .i64 (n:Int), .string key] w fun e w'=>∃r,e= .returned (.tuple #[.string r, .int .i64 0])∧ak r (fi n key.data.toList)∧Below w.heap.size w w':=by
 go_enter Tryz.func151,Tryz.ntmps151
 go_wp2_with fail
 refine(mC n 4 _ (by decide) (by decide) (by omega) (fun _=>by simpa using hn)).mono ?_
 rintro e w1 ⟨r,rfl,tr,hb1⟩
 have hr:r.size=4:=by rw[tr.size,beBytes_length]
 have HTR:=Lib.hid tr
 have HB1:=Lib.hid hb1
 clear tr hb1
 have h32:(key.size:Int)=32:=by omega
 go_upto_region 5 with fail
 obtain⟨s,hs⟩:∃s,(⟨#[107,101,121]⟩:ByteArray)++r++key=s:=⟨_,rfl⟩
 rw[hs]
 have hss:s.size=39:=by rw[←hs,ByteArray.size_append,ByteArray.size_append,hr,hk];rfl
 have HTS:=Lib.hid (show ak s (dZ n key.data.toList) by rw[←hs];exact((show ak (⟨#[107,101,121]⟩:ByteArray) lm from rfl).append (HTR.out.cast (by simp))).append (ak.self key))
 clear hs hr
 go_wp2_with fail
 refine(mf s _ _ (by omega)).mono ?_
 rintro e w2 ⟨q,rfl,tq,hb2⟩
 have hq:q.size=32:=by rw[tq.size,cJ]
 have HTQ:=Lib.hid (show ak q (de (dZ n key.data.toList))from tq.cast (by rw[show s.data.toList= _ from HTS.out]))
 have HB2:=Lib.hid (HB1.out.trans (hb2.mono HB1.out.size))
 clear tq hb2
 go_wp2_with fail
 refine(gv (s++q) 4096 _ (by rw[ByteArray.size_append,hss,hq];decide) (by decide)).mono ?_
 rintro e w3 ⟨z,rfl,tz,hb3⟩
 have HB3:=Lib.hid (HB2.out.trans (hb3.mono HB2.out.size))
 have HTZ:=Lib.hid (show ak z (fi n key.data.toList)from tz.cast (by unfold fi;rw[show(s++q).data.toList= _ from HTS.out.append HTQ.out]))
 clear tz hb3
 go_wp2_with fail
 go_ret2
 exact⟨z,rfl,HTZ.out,HB3.out⟩
theorem jM (n:Int) (w:World) (h0:0≤n) (h1:n<4294967296):
  Calls Tryz.prog 370 #[.int .i64 n] w fun e w'=>e= .returned (.bool true)∧w=w':=by
 have h2:n≤4294967295:=by omega
 go_enter Tryz.func370,Tryz.ntmps370
 go_wp2_with fail
 go_ret
 exact⟨rfl,rfl⟩
theorem mh (n:Nat) (key:List UInt8):∃t,fi n key=lm++(beBytes 4 n++(key++t)):=by
 refine⟨de (dZ n key)++List.replicate (4096-(dZ n key++de (dZ n key)).length) 0, ?_⟩
 unfold fi ke
 have h:dZ n key=lm++(beBytes 4 n++key):=by unfold dZ;rw[List.append_assoc];simp
 conv=>lhs;rw[show dZ (n:Int) key++de (dZ n key)=dZ n key++de (dZ n key)from rfl]
 rw[List.append_assoc]
 conv=>lhs;lhs;rw[h]
 simp only[List.append_assoc]
theorem AE {block:ByteArray} {n:Nat} {key:List UInt8} (ht:ak block (fi n key)):ak (block.extract 3 7) (beBytes 4 n):=by
 obtain⟨t,h⟩:=mh n key
 rw[h]at ht
 refine(ht.extract 3 7).cast ?_
 rw[show(7:Nat)=3+4 from rfl,List.drop_take,show 3+4-3=4 from rfl,jn (show lm.length=3 from rfl),jm (beBytes_length 4 n)]
theorem AG {block key:ByteArray} {n:Nat} (ht:ak block (fi n key.data.toList)) (hk:key.size=32):block.extract 7 39=key:=by
 obtain⟨t,h⟩:=mh n key.data.toList
 rw[h]at ht
 have h2:ak (block.extract 7 39) key.data.toList:=(ht.extract 7 39).cast (by
  rw[show(39:Nat)=7+32 from rfl,List.drop_take,show 7+32-7=32 from rfl]
  have e7:∀x:List UInt8,x.drop 7=(x.drop 3).drop 4:=fun x=>by rw[List.drop_drop]
  rw[e7,jn (show lm.length=3 from rfl),jn (beBytes_length 4 n),jm (show key.data.toList.length=32 from hk)])
 exact h2.eq (ak.self key)
theorem AH {block:ByteArray} {n:Nat} {key:List UInt8} (ht:ak block (fi n key)) (hs:block.size=4096):¬∀k,k<block.size→block.data.toList.getD k 0=0:=by
 intro h
 obtain⟨t,hk⟩:=mh n key
 have h0:=h 0 (by omega)
 rw[show block.data.toList= _ from ht,hk]at h0
 exact absurd h0 (by simp[lm,List.getD])
theorem lK (n:Nat) (key block:ByteArray) (w:World) (hn:n<4294967296) (hk:key.size=32) (ht:ak block (fi n key.data.toList)):
  Calls Tryz.prog 371 #[.string block] w fun e w'=>e= .returned (.tuple #[.int .i64 (n:Int), .string key, .int .i64 0])∧Below w.heap.size w w':=by
 have hs:block.size=4096:=by rw[ht.size];exact lH (by exact hk)
 have HSOME:=Lib.hid (AH ht hs)
 have HC1:=Lib.hid (AE ht)
 have HC2:=Lib.hid (AG ht hk)
 have HT:=Lib.hid ht
 have HS:=Lib.hid hs
 have hsi:(block.size:Int)=4096:=by omega
 clear ht
 go_enter Tryz.func371,Tryz.ntmps371
 go_wp2_with fail
 refine(EP block _ (by have:=HS.out;omega)).mono ?_
 rintro e w1 ⟨q,rfl,hq,h01,hb1⟩
 obtain rfl:q=1:=by
  rcases h01 with h1|h1
  ·exact absurd (hq.1 h1) HSOME.out
  ·exact h1
 have HB1:=Lib.hid hb1
 clear hq h01 hb1
 go_wp2_with fail
 obtain⟨s4,h4⟩:∃s4,block.extract 3 7=s4:=⟨_,rfl⟩
 rw[h4]
 have t4:ak s4 (beBytes 4 n):=by rw[←h4];exact HC1.out
 have HT4:=Lib.hid t4
 clear h4 t4
 refine(iJ s4 _).mono ?_
 rintro e w2 ⟨he,rfl⟩
 obtain rfl:e= .returned (.tuple #[.int .i64 (n:Int), .int .i64 0]):=by
  rw[show s4.data.toList= _ from HT4.out]at he
  have hnum:=ei 4 n (by simpa using hn)
  rcases he with⟨_,h⟩|⟨h,_⟩
  ·rw[h,hnum]
  ·exact absurd ⟨by rw[beBytes_length];omega,by rw[beBytes_length];omega,by rw[hnum];omega⟩ h
 clear he
 go_wp2_with fail
 rw[HC2.out]
 refine(jL n key _ hn hk).mono ?_
 rintro e w3 ⟨r,rfl,tr,hb3⟩
 obtain rfl:r=block:=tr.eq HT.out
 have HB3:=Lib.hid (HB1.out.trans (hb3.mono HB1.out.size))
 clear tr hb3
 go_wp2_with fail
 refine(kg r r _ (by have:=HS.out;omega) rfl).mono ?_
 rintro e w4 ⟨rfl,hb4⟩
 have HB4:=Lib.hid (HB3.out.trans (hb4.mono HB3.out.size))
 rw[decide_eq_true rfl]
 clear hb4
 go_wp2_with fail
 (try simp only[Exit.inBlock,Exit.then]);refine bodyPost_ret (results_tmp3 rfl _ _ _) rfl ⟨rfl,HB4.out⟩
theorem qO (n:Nat) (key a b:ByteArray) (w:World) (hn:n<4294967296) (hk:key.size=32) (ht:ak (if n % 2=0 then a else b) (fi n key.data.toList)):
  Calls Tryz.prog 328 #[.string a, .string b, .int .i64 (n:Int)] w fun e w'=>e= .returned (.tuple #[.string key, .int .i64 0])∧Below w.heap.size w w':=by
 have hn0:(0:Int)≤(n:Int):=by omega
 by_cases he:n % 2=0
 ·rw[if_pos he]at ht
  have hm:(n:Int) % 2=0:=by omega
  go_enter Tryz.func328,Tryz.ntmps328
  go_wp2_with fail
  refine(jM _ _ hn0 (by omega)).mono ?_
  rintro e w' ⟨rfl,rfl⟩
  go_wp2_with (first
   |((with_reducible refine eM 423 9 (.tmp 17) (.tmp 19) [.string a, .string b] 2 0 (.string a) (some 20) Tryz.underlying423 Tryz.isAgg9 Tryz.sizeOf9 (by decide) rfl ?hgd ?ho ?hd ?hx ?hy ?_);(case hgd|ho|hd|hx=>rfl);(case hy=>exact congrArg (Value.int .i64) hm))
   |fail)
  refine(lK n key a _ hn hk ht).mono ?_
  rintro e w1 ⟨rfl,hb⟩
  go_wp2_with fail
  go_ret2
  exact⟨rfl,hb⟩
 ·rw[if_neg he]at ht
  have hm:(n:Int) % 2=1:=by omega
  go_enter Tryz.func328,Tryz.ntmps328
  go_wp2_with fail
  refine(jM _ _ hn0 (by omega)).mono ?_
  rintro e w' ⟨rfl,rfl⟩
  go_wp2_with (first
   |((with_reducible refine eM 423 9 (.tmp 17) (.tmp 19) [.string a, .string b] 2 1 (.string b) (some 20) Tryz.underlying423 Tryz.isAgg9 Tryz.sizeOf9 (by decide) rfl ?hgd ?ho ?hd ?hx ?hy ?_);(case hgd|ho|hd|hx=>rfl);(case hy=>exact congrArg (Value.int .i64) hm))
   |fail)
  refine(lK n key b _ hn hk ht).mono ?_
  rintro e w1 ⟨rfl,hb⟩
  go_wp2_with fail
  go_ret2
  exact⟨rfl,hb⟩
theorem ow (i n:Nat) (s:ByteArray) (b5 b7:Nat) (w:World) (h5:ac w b5 [.int .i64 (n:Int)] 3) (hi:i=n % 2):
  Calls Tryz.prog 372 #[.int .i64 (i:Int), .string s, .pointer (some ⟨b5,0,none⟩), .pointer (some ⟨b7,0,none⟩)] w fun e w'=>e= .returned (.tuple #[])∧Below w.heap.size w w':=by
 have c5:=h5.cell (i:=0) rfl
 have hm:(n:Int) % 2=(i:Int):=by omega
 clear hi
 go_enter Tryz.func372,Tryz.ntmps372
 go_wp2_with fail
 go_end0
 exact⟨rfl,Below.refl _ _⟩
theorem oC (i n:Nat) (b5 b7:Nat) (w:World) (h5:ac w b5 [.int .i64 (n:Int)] 3) (hi:i≠n % 2):
  Calls Tryz.prog 372 #[.int .i64 (i:Int), .string (⟨(List.replicate 4096 0).toArray⟩:ByteArray), .pointer (some ⟨b5,0,none⟩), .pointer (some ⟨b7,0,none⟩)] w fun e w'=>e= .returned (.tuple #[])∧Below w.heap.size w w':=by
 have c5:=h5.cell (i:=0) rfl
 have hm:¬((i:Int)=(n:Int) % 2):=by omega
 clear hi
 go_enter Tryz.func372,Tryz.ntmps372
 go_wp2_with fail
 refine(iK _).mono ?_
 rintro e w1 ⟨rfl,hb⟩
 go_wp2_with fail
 go_end0
 exact⟨rfl,hb⟩
theorem ud (w:World):Sem.run Tryz.prog (zeroValue 22) w= .ok (.slice none 0 0) w:=by kernel_rfl
theorem pO (n:Nat) (a b:ByteArray) (w:World) (hn:n<4294967296) (hab:(if n % 2=0 then b else a)=(⟨(List.replicate 4096 0).toArray⟩:ByteArray)):
  Calls Tryz.prog 329 #[.string a, .string b, .int .i64 (n:Int)] w fun e w'=>e= .returned (.slice none 0 0)∧Below w.heap.size w w':=by
 have hmf:∀(fn:Fn) (first cap:Array Value) (w:World),(Instr.makeFunc fn first cap).run Tryz.prog w= .ok (.func fn first cap) w:=fun _ _ _ _=>rfl
 have HAB:=Lib.hid hab
 have hn0:(0:Int)≤(n:Int):=by omega
 have hn1:(n:Int)<4294967296:=by omega
 have HN0:=Lib.hid hn0
 have HN1:=Lib.hid hn1
 clear hab hn0 hn1 hn
 go_enter Tryz.func329,Tryz.ntmps329
 go_wp2_with (first
  |((with_reducible refine aw 3 (.tmp 2) (.int .i64 (n:Int)) rfl (some 5) ?hgd ?ho ?hd ?hx ?_);(case hgd|ho|hd|hx=>rfl);(intro b5 w1 l1 B1 e1 z1);(have c5:=B1.cell (i:=0) rfl))
  |((with_reducible refine aG 22 (.slice none 0 0) ud rfl (some 7) ?hgd ?ho ?hd ?_);(case hgd|ho|hd=>rfl);(intro b7 w2 l2 B2 e2 z2);(have B1':=B1.below e2 (Nat.lt_of_lt_of_le z1 l2));(have c5':=B1'.cell (i:=0) rfl))
  |fail)
 refine(jM _ _ HN0.out HN1.out).mono ?_
 rintro e w' ⟨rfl,rfl⟩
 have HB:=Lib.hid ((e1.mono l1).trans (e2.mono (Nat.le_trans l1 (Nat.le_of_lt (Nat.lt_of_lt_of_le z1 l2)))))
 have H5:=Lib.hid B1'
 have H7:=Lib.hid B2
 clear e1 e2 B1 c5 c5' z1 z2 B1' B2 l1 l2
 go_wp2_with fail
 go_loopw [19] (fun i wr=>∃k:Nat,k≤2∧i= .int .i64 k∧Below w.heap.size w wr∧ac wr b5 [.int .i64 (n:Int)] 3∧ac wr b7 [.slice none 0 0] 22) (fun i _=>2-(intOf i).toNat)
 case atStart=>exact⟨0,by omega,rfl,HB.out,H5.out,H7.out⟩
 case round=>
  clear HB H5 H7
  obtain⟨k,hk,rfl,hbb,h5,h7⟩:=hrel
  have HB:=Lib.hid hbb
  have H5:=Lib.hid h5
  have H7:=Lib.hid h7
  clear hbb h5 h7
  match k,hk with
  |0,hk=>
   go_wp2_with (first
    |((with_reducible refine eM 423 9 (.tmp 18) (.tmp 19) [.string a, .string b] 2 0 (.string a) (some 22) Tryz.underlying423 Tryz.isAgg9 Tryz.sizeOf9 (by decide) rfl ?hgd ?ho ?hd ?hx ?hy ?_);(case hgd|ho|hd|hx|hy=>rfl))
    |fail)
   refine Calls.mono (show Calls Tryz.prog 372 #[.int .i64 ((0:Nat):Int), .string a, .pointer (some ⟨b5,0,none⟩), .pointer (some ⟨b7,0,none⟩)] wr (fun e w'=>e= .returned (.tuple #[])∧Below wr.heap.size wr w')from ?_) ?_
   ·by_cases hm:0=n % 2
    ·exact ow 0 n a b5 b7 _ H5.out hm
    ·have hv:a=(⟨(List.replicate 4096 0).toArray⟩:ByteArray):=by have:=HAB.out;rw[if_neg (by omega)]at this;exact this
     rw[hv]
     exact oC 0 n b5 b7 _ H5.out hm
   rintro e w5 ⟨rfl,hb5⟩
   have hs5:=HB.out.size
   have B5:=H5.out.below hb5 H5.out.lt
   have B7:=H7.out.below hb5 H7.out.lt
   have HBb:=HB.out.trans (hb5.mono hs5)
   clear hb5
   go_wp2_with fail
   go_roundw
   case rel=>exact⟨0+1,by omega,rfl,HBb,B5,B7⟩
   case measure=>simp[intOf]
  |1,hk=>
   go_wp2_with (first
    |((with_reducible refine eM 423 9 (.tmp 18) (.tmp 19) [.string a, .string b] 2 1 (.string b) (some 22) Tryz.underlying423 Tryz.isAgg9 Tryz.sizeOf9 (by decide) rfl ?hgd ?ho ?hd ?hx ?hy ?_);(case hgd|ho|hd|hx|hy=>rfl))
    |fail)
   refine Calls.mono (show Calls Tryz.prog 372 #[.int .i64 ((1:Nat):Int), .string b, .pointer (some ⟨b5,0,none⟩), .pointer (some ⟨b7,0,none⟩)] wr (fun e w'=>e= .returned (.tuple #[])∧Below wr.heap.size wr w')from ?_) ?_
   ·by_cases hm:1=n % 2
    ·exact ow 1 n b b5 b7 _ H5.out hm
    ·have hv:b=(⟨(List.replicate 4096 0).toArray⟩:ByteArray):=by have:=HAB.out;rw[if_pos (by omega)]at this;exact this
     rw[hv]
     exact oC 1 n b5 b7 _ H5.out hm
   rintro e w5 ⟨rfl,hb5⟩
   have hs5:=HB.out.size
   have B5:=H5.out.below hb5 H5.out.lt
   have B7:=H7.out.below hb5 H7.out.lt
   have HBb:=HB.out.trans (hb5.mono hs5)
   clear hb5
   go_wp2_with fail
   go_roundw
   case rel=>exact⟨1+1,by omega,rfl,HBb,B5,B7⟩
   case measure=>simp[intOf]
  |2,hk=>
   have c7:=H7.out.cell (i:=0) rfl
   go_wp2_with fail
   go_ret
   exact⟨rfl,HB.out⟩
theorem aZ {s:aD}:(Tryz.prog.info? 174).map (·.size)=some s.cells.length:=by kernel_rfl
theorem dy (s:aD):∀v∈s.cells,v.oneCell'=true:=by intro v hv;simp[aD.cells]at hv;rcases hv with rfl|rfl|rfl|rfl|rfl|rfl|rfl<;>rfl
theorem lM {w:World} {b:Nat} {s:aD} (h:ac w b s.cells 174):w.rangeAt b 4 s.geo.cells:=by
 intro j v hv
 match j,hv with
 |0,hv=>simp[aK.cells]at hv;subst hv;exact h.cell (i:=4) rfl
 |1,hv=>simp[aK.cells]at hv;subst hv;exact h.cell (i:=5) rfl
 |2,hv=>simp[aK.cells]at hv;subst hv;exact h.cell (i:=6) rfl
 |j+3,hv=>simp[aK.cells]at hv
def dn:List Int:=[8,4,4,8]
theorem gw (w:World):
  Calls Tryz.prog 324 #[] w fun e w'=>(∃v,e= .returned v∧bF w' v dn)∧Below w.heap.size w w':=by
 go_enter Tryz.func324,Tryz.ntmps324
 go_wp2_with fail
 go_ret
 exact⟨⟨_,rfl,bF.blk (xs:=dn) (ac.new w (dn.map (Value.int .i64)) 3) rfl 4⟩,(Below.refl _ _).alloc (Nat.le_refl _) _⟩
theorem yB {s:aD} (h:gi s):mg dn [s.gen,s.tail,s.epoch,s.clock]:=by
 obtain⟨⟨k1,k2,k3,k4,k5,k6⟩,h1,h2,h3,h4,h5,h6,h7,h8⟩:=h
 have p4:(256:Nat)^4=4294967296:=rfl
 have p8:(256:Nat)^8=18446744073709551616:=rfl
 refine⟨rfl,fun i a x ha hx=> ?_⟩
 match i,ha,hx with
 |0,ha,hx=>simp[dn]at ha hx;subst ha;subst hx;simp;omega
 |1,ha,hx=>simp[dn]at ha hx;subst ha;subst hx;simp;omega
 |2,ha,hx=>simp[dn]at ha hx;subst ha;subst hx;simp;omega
 |3,ha,hx=>simp[dn]at ha hx;subst ha;subst hx;simp;omega
theorem rO (s:aD):fm dn [s.gen,s.tail,s.epoch,s.clock]=beBytes 8 s.gen.toNat++beBytes 4 s.tail.toNat++beBytes 4 s.epoch.toNat++beBytes 8 s.clock.toNat:=by simp[fm,dn]
theorem mM (s:aD) (w:World) (hs:gi s):
  Calls Tryz.prog 287 #[s.v] w fun e w'=>e= .returned (.int .i64 0)∧Below w.heap.size w w':=by
 obtain⟨gen,tail,epoch,clock,⟨blocks,lbas,first⟩⟩:=s
 obtain⟨hg,h1,h2,h3,h4,h5,h6,h7,h8⟩:=hs
 simp only at hg h1 h2 h3 h4 h5 h6 h7 h8
 have HG:=Lib.hid hg
 have d1:decide (gen<1)=false:=decide_eq_false (by omega)
 have d2:decide (1152921504606846976<gen)=false:=decide_eq_false (by omega)
 have d4:¬(blocks-4:Int)<tail:=by omega
 have d5:¬(4294967295:Int)<epoch:=by omega
 have d6:¬(1099511627776:Int)<clock:=by omega
 have d3:decide (tail<0)=false:=decide_eq_false (by omega)
 clear hg
 go_enter Tryz.func287,Tryz.ntmps287
 go_wp2_with (first
  |((with_reducible refine ai 174 (.tmp 0) (aD.cells ⟨gen,tail,epoch,clock,⟨blocks,lbas,first⟩⟩) (some 1) ?hgd ?ho ?hd ?hx ?_);(case hgd|ho|hd|hx=>rfl);(intro b1 w1 l1 B1 e1 z1))
  |((with_reducible refine ag 31 (.tmp 4) b1 4 (aK.cells ⟨blocks,lbas,first⟩) _ (some 5) (lM (s:=⟨gen,tail,epoch,clock,⟨blocks,lbas,first⟩⟩) B1) Tryz.underlying31 rfl bP ?hg ?ho ?hds ?hx ?_);(case ho|hg|hds|hx=>rfl))
  |fail)
 refine(eJ ⟨blocks,lbas,first⟩ _ HG.out).mono ?_
 rintro e w2 ⟨rfl,hb2⟩
 have HB2:=Lib.hid (B1.below hb2 z1)
 have HBE2:=Lib.hid ((e1.mono l1).trans (hb2.mono (Nat.le_trans l1 (Nat.le_of_lt z1))))
 clear hb2 B1 e1
 go_upto_region 2 with fail
 refine wp_region_held_drew (S:=fun wx=>ac wx b1 (aD.cells ⟨gen,tail,epoch,clock,⟨blocks,lbas,first⟩⟩) 174) (by kernel_rfl) (HB2.out.drew) (fun hHeld=> ?_)
 obtain⟨wd,hwd⟩:∃wd,wd=w2.drew:=⟨_,rfl⟩
 have HBd:=Lib.hid (show ac wd b1 _ 174 from by rw[hwd];exact HB2.out.drew)
 have HBEd:Hid (Below w.heap.size w wd):=Lib.hid (by rw[hwd];exact HBE2.out.drew)
 rw[←hwd]
 rw[←hwd]at hHeld
 clear hwd
 refine hp 0 ?_ (hy:=by intro w hSw;(try dsimp only at hSw);(have a0:=hSw.cell (i:=0) rfl);(have a1:=hSw.cell (i:=1) rfl);(have a2:=hSw.cell (i:=2) rfl);(have a3:=hSw.cell (i:=3) rfl);go_simp;first|done|with_reducible rfl)
 refine hp 1 ?_ (hy:=by intro w hSw;(try dsimp only at hSw);(have a0:=hSw.cell (i:=0) rfl);(have a1:=hSw.cell (i:=1) rfl);(have a2:=hSw.cell (i:=2) rfl);(have a3:=hSw.cell (i:=3) rfl);go_simp;first|done|with_reducible rfl)
 refine hp 2 ?_ (hy:=by intro w hSw;(try dsimp only at hSw);(have a0:=hSw.cell (i:=0) rfl);(have a1:=hSw.cell (i:=1) rfl);(have a2:=hSw.cell (i:=2) rfl);(have a3:=hSw.cell (i:=3) rfl);go_simp;first|done|with_reducible rfl)
 refine hp 3 ?_ (hy:=by intro w hSw;(try dsimp only at hSw);(have a0:=hSw.cell (i:=0) rfl);(have a1:=hSw.cell (i:=1) rfl);(have a2:=hSw.cell (i:=2) rfl);(have a3:=hSw.cell (i:=3) rfl);go_simp;first|done|with_reducible rfl)
 refine hp 4 ?_ (hy:=by intro w hSw;(try dsimp only at hSw);(have a0:=hSw.cell (i:=0) rfl);(have a1:=hSw.cell (i:=1) rfl);(have a2:=hSw.cell (i:=2) rfl);(have a3:=hSw.cell (i:=3) rfl);go_simp;first|done|with_reducible rfl)
 refine hp 5 ?_ (hy:=by intro w hSw;(try dsimp only at hSw);(have a0:=hSw.cell (i:=0) rfl);(have a1:=hSw.cell (i:=1) rfl);(have a2:=hSw.cell (i:=2) rfl);(have a3:=hSw.cell (i:=3) rfl);go_simp;first|done|with_reducible rfl)
 refine hp 6 ?_ (hy:=by intro w hSw;(try dsimp only at hSw);(have a0:=hSw.cell (i:=0) rfl);(have a1:=hSw.cell (i:=1) rfl);(have a2:=hSw.cell (i:=2) rfl);(have a3:=hSw.cell (i:=3) rfl);go_simp;first|done|with_reducible rfl)
 refine hp 7 ?_ (hy:=by intro w hSw;(try dsimp only at hSw);(have a0:=hSw.cell (i:=0) rfl);(have a1:=hSw.cell (i:=1) rfl);(have a2:=hSw.cell (i:=2) rfl);(have a3:=hSw.cell (i:=3) rfl);go_simp;first|done|with_reducible rfl)
 refine hp 8 ?_ (hy:=by intro w hSw;(try dsimp only at hSw);(have a0:=hSw.cell (i:=0) rfl);(have a1:=hSw.cell (i:=1) rfl);(have a2:=hSw.cell (i:=2) rfl);(have a3:=hSw.cell (i:=3) rfl);go_simp;first|done|with_reducible rfl)
 refine hp 9 ?_ (hy:=by intro w hSw;(try dsimp only at hSw);(have a0:=hSw.cell (i:=0) rfl);(have a1:=hSw.cell (i:=1) rfl);(have a2:=hSw.cell (i:=2) rfl);(have a3:=hSw.cell (i:=3) rfl);go_simp;first|done|with_reducible rfl)
 refine hp 10 ?_ (hy:=by intro w hSw;(try dsimp only at hSw);(have a0:=hSw.cell (i:=0) rfl);(have a1:=hSw.cell (i:=1) rfl);(have a2:=hSw.cell (i:=2) rfl);(have a3:=hSw.cell (i:=3) rfl);go_simp;first|done|with_reducible rfl)
 refine hp 11 ?_ (hy:=by intro w hSw;(try dsimp only at hSw);(have a0:=hSw.cell (i:=0) rfl);(have a1:=hSw.cell (i:=1) rfl);(have a2:=hSw.cell (i:=2) rfl);(have a3:=hSw.cell (i:=3) rfl);go_simp;first|done|with_reducible rfl)
 refine hp 12 ?_ (hy:=by intro w hSw;(try dsimp only at hSw);(have a0:=hSw.cell (i:=0) rfl);(have a1:=hSw.cell (i:=1) rfl);(have a2:=hSw.cell (i:=2) rfl);(have a3:=hSw.cell (i:=3) rfl);go_simp;first|done|with_reducible rfl)
 refine hp 13 ?_ (hy:=by intro w hSw;(try dsimp only at hSw);(have a0:=hSw.cell (i:=0) rfl);(have a1:=hSw.cell (i:=1) rfl);(have a2:=hSw.cell (i:=2) rfl);(have a3:=hSw.cell (i:=3) rfl);go_simp;first|done|with_reducible rfl)
 refine hp 14 ?_ (hy:=by intro w hSw;(try dsimp only at hSw);(have a0:=hSw.cell (i:=0) rfl);(have a1:=hSw.cell (i:=1) rfl);(have a2:=hSw.cell (i:=2) rfl);(have a3:=hSw.cell (i:=3) rfl);go_simp;first|done|with_reducible rfl)
 refine hp 15 ?_ (hy:=by intro w hSw;(try dsimp only at hSw);(have a0:=hSw.cell (i:=0) rfl);(have a1:=hSw.cell (i:=1) rfl);(have a2:=hSw.cell (i:=2) rfl);(have a3:=hSw.cell (i:=3) rfl);go_simp;first|done|with_reducible rfl)
 refine hp 16 ?_ (hy:=by intro w hSw;(try dsimp only at hSw);(have a0:=hSw.cell (i:=0) rfl);(have a1:=hSw.cell (i:=1) rfl);(have a2:=hSw.cell (i:=2) rfl);(have a3:=hSw.cell (i:=3) rfl);go_simp;first|done|with_reducible rfl)
 refine wpAnyH_take (i:=17) (v:= .agg (aK.cells ⟨blocks,lbas,first⟩).toArray) rfl (by kernel_rfl) (by kernel_rfl) (by kernel_rfl) (fun _ _ _ h=>h) (yieldsIf_load_mid (by rfl) 31 (.tmp 25) rfl b1 4 rfl (aK.cells ⟨blocks,lbas,first⟩) _ (fun w h=>lM (s:=⟨gen,tail,epoch,clock,⟨blocks,lbas,first⟩⟩) h) Tryz.underlying31 rfl bP) (by assumption) ?_
 (try go_frame)
 refine wpAnyH_ready (rs:=[18]) (by kernel_rfl) (by simp) ?_
 refine AllReadyH.cons rfl (fun K hK=> ?_) AllReadyH.nil
 go_simp
 refine(il ⟨blocks,lbas,first⟩ _ HG.out).mono ?_
 rintro e w3 ⟨rfl,hb3⟩
 have HB3:=Lib.hid (HBd.out.below hb3 HBd.out.lt)
 have HBE3:=Lib.hid (HBEd.out.trans (hb3.mono HBEd.out.size))
 clear hb3
 (try go_wp2_with fail)
 refine hK.out _ _ (HB3.out) (fun hHeld2=> ?_)
 clear hK K hHeld
 have hHeld:=hHeld2
 clear hHeld2
 (try go_frame)
 refine hp 19 ?_ (hy:=by intro w hSw;(try dsimp only at hSw);(have a0:=hSw.cell (i:=0) rfl);(have a1:=hSw.cell (i:=1) rfl);(have a2:=hSw.cell (i:=2) rfl);(have a3:=hSw.cell (i:=3) rfl);go_simp;first|done|with_reducible rfl)
 refine hp 20 ?_ (hy:=by intro w hSw;(try dsimp only at hSw);(have a0:=hSw.cell (i:=0) rfl);(have a1:=hSw.cell (i:=1) rfl);(have a2:=hSw.cell (i:=2) rfl);(have a3:=hSw.cell (i:=3) rfl);go_simp;first|done|with_reducible rfl)
 refine hp 21 ?_ (hy:=by intro w hSw;(try dsimp only at hSw);(have a0:=hSw.cell (i:=0) rfl);(have a1:=hSw.cell (i:=1) rfl);(have a2:=hSw.cell (i:=2) rfl);(have a3:=hSw.cell (i:=3) rfl);go_simp;first|done|with_reducible rfl)
 refine wpAnyH_done (by kernel_rfl) ?_ _
 have q2:=HB3.out.cell (i:=2) rfl
 have q3:=HB3.out.cell (i:=3) rfl
 have q6:=HB3.out.cell (i:=6) rfl
 go_wp2_with fail
 go_ret
 exact⟨rfl,HBE3.out⟩
theorem oD (s:aD) (w:World) (hs:gi s):
  Calls Tryz.prog 255 #[s.v] w fun e w'=>∃r,e= .returned (.tuple #[.string r, .int .i64 0])∧ak r (eB s)∧Below w.heap.size w w':=by
 go_enter Tryz.func255,Tryz.ntmps255
 go_wp2_with (first
  |((with_reducible refine ai 174 (.tmp 0) s.cells (some 1) ?hgd ?ho ?hd ?hx ?_);(case hgd|ho|hd|hx=>rfl);(intro b1 w1 l1 B1 e1 z1))
  |((with_reducible refine ag 174 (.tmp 1) b1 0 s.cells _ (some 10) B1.range Tryz.underlying174 rfl aZ ?hg ?ho ?hds ?hx ?_);(case ho|hg|hds|hx=>rfl))
  |fail)
 refine(mM s _ hs).mono ?_
 rintro e w2 ⟨rfl,hb2⟩
 have HB2:=Lib.hid (B1.below hb2 z1)
 have HBE2:=Lib.hid ((e1.mono l1).trans (hb2.mono (Nat.le_trans l1 (Nat.le_of_lt z1))))
 clear hb2 B1 e1
 go_upto_region 4 with fail
 refine wp_region_held_drew (S:=fun wx=>ac wx b1 s.cells 174) (by kernel_rfl) (HB2.out.drew) (fun hHeld=> ?_)
 obtain⟨wd,hwd⟩:∃wd,wd=w2.drew:=⟨_,rfl⟩
 have HBwd:=Lib.hid (show ac wd b1 s.cells 174 from by rw[hwd];exact HB2.out.drew)
 have HBEwd:Hid (Below w.heap.size w wd):=Lib.hid (by rw[hwd];exact HBE2.out.drew)
 rw[←hwd]
 rw[←hwd]at hHeld
 clear hwd
 refine hp 1 ?_ (hy:=by intro w hSw;(try dsimp only at hSw);(have a0:=hSw.cell (i:=0) rfl);(have a1:=hSw.cell (i:=1) rfl);(have a2:=hSw.cell (i:=2) rfl);(have a3:=hSw.cell (i:=3) rfl);go_simp;first|done|with_reducible rfl)
 refine hp 2 ?_ (hy:=by intro w hSw;(try dsimp only at hSw);(have a0:=hSw.cell (i:=0) rfl);(have a1:=hSw.cell (i:=1) rfl);(have a2:=hSw.cell (i:=2) rfl);(have a3:=hSw.cell (i:=3) rfl);go_simp;first|done|with_reducible rfl)
 refine hp 3 ?_ (hy:=by intro w hSw;(try dsimp only at hSw);(have a0:=hSw.cell (i:=0) rfl);(have a1:=hSw.cell (i:=1) rfl);(have a2:=hSw.cell (i:=2) rfl);(have a3:=hSw.cell (i:=3) rfl);go_simp;first|done|with_reducible rfl)
 refine hp 4 ?_ (hy:=by intro w hSw;(try dsimp only at hSw);(have a0:=hSw.cell (i:=0) rfl);(have a1:=hSw.cell (i:=1) rfl);(have a2:=hSw.cell (i:=2) rfl);(have a3:=hSw.cell (i:=3) rfl);go_simp;first|done|with_reducible rfl)
 refine hp 5 ?_ (hy:=by intro w hSw;(try dsimp only at hSw);(have a0:=hSw.cell (i:=0) rfl);(have a1:=hSw.cell (i:=1) rfl);(have a2:=hSw.cell (i:=2) rfl);(have a3:=hSw.cell (i:=3) rfl);go_simp;first|done|with_reducible rfl)
 refine hp 6 ?_ (hy:=by intro w hSw;(try dsimp only at hSw);(have a0:=hSw.cell (i:=0) rfl);(have a1:=hSw.cell (i:=1) rfl);(have a2:=hSw.cell (i:=2) rfl);(have a3:=hSw.cell (i:=3) rfl);go_simp;first|done|with_reducible rfl)
 refine hp 7 ?_ (hy:=by intro w hSw;(try dsimp only at hSw);(have a0:=hSw.cell (i:=0) rfl);(have a1:=hSw.cell (i:=1) rfl);(have a2:=hSw.cell (i:=2) rfl);(have a3:=hSw.cell (i:=3) rfl);go_simp;first|done|with_reducible rfl)
 refine hp 8 ?_ (hy:=by intro w hSw;(try dsimp only at hSw);(have a0:=hSw.cell (i:=0) rfl);(have a1:=hSw.cell (i:=1) rfl);(have a2:=hSw.cell (i:=2) rfl);(have a3:=hSw.cell (i:=3) rfl);go_simp;first|done|with_reducible rfl)
 refine wpAnyH_ready (rs:=[0,9]) (by kernel_rfl) (by simp) ?_
 refine AllReadyH.cons rfl (fun K hK=> ?_) (AllReadyH.cons rfl (fun K hK=> ?_) AllReadyH.nil)
 ·go_simp
  refine(gw _).mono ?_
  rintro e wa ⟨⟨vw,rfl,hvw⟩,hb3⟩
  have HBwa:=Lib.hid (HBwd.out.below hb3 HBwd.out.lt)
  have HBEwa:=Lib.hid (HBEwd.out.trans (hb3.mono HBEwd.out.size))
  have HVWwa:=Lib.hid hvw
  skip
  clear hb3 hvw
  (try go_wp2_with fail)
  refine hK.out _ _ (HBwa.out) (fun hHeld2=> ?_)
  clear hK K hHeld
  have hHeld:=hHeld2
  clear hHeld2
  (try go_frame)
  refine wpAnyH_ready (rs:=[9]) (by kernel_rfl) (by simp) ?_
  refine AllReadyH.cons rfl (fun K hK=> ?_) AllReadyH.nil
  go_simp
  obtain⟨wb,hw4⟩:∃w4,w4=wa.alloc (Obj.cells #[Value.int IntKind.i64 s.gen,Value.int IntKind.i64 s.tail,Value.int IntKind.i64 s.epoch,Value.int IntKind.i64 s.clock] 3):=⟨_,rfl⟩
  rw[←hw4]
  have hb4:Below wa.heap.size wa wb:=by rw[hw4];exact(Below.refl _ _).alloc (Nat.le_refl _) _
  have B4:ac wb wa.heap.size [.int .i64 s.gen, .int .i64 s.tail, .int .i64 s.epoch, .int .i64 s.clock] 3:=by rw[hw4];exact ac.new wa _ _
  have HGwb:=Lib.hid B4
  have HBwb:=Lib.hid (HBwa.out.below hb4 HBwa.out.lt)
  have HBEwb:=Lib.hid (HBEwa.out.trans (hb4.mono HBEwa.out.size))
  have HVWwb:=Lib.hid (HVWwa.out.below hb4 (Nat.le_refl _))
  clear hb4 B4 hw4
  (try go_wp2_with fail)
  refine hK.out _ _ (HBwb.out) (fun hHeld2=> ?_)
  clear hK K hHeld
  have hHeld:=hHeld2
  clear hHeld2
  (try go_frame)
  refine wpAnyH_ready (rs:=[10]) (by kernel_rfl) (by simp) ?_
  refine AllReadyH.cons rfl (fun K hK=> ?_) AllReadyH.nil
  go_simp
  refine(gK _ _ dn [s.gen,s.tail,s.epoch,s.clock] _ HVWwb.out (bF.blk (xs:=[s.gen,s.tail,s.epoch,s.clock]) HGwb.out rfl 4) (by show 0<4;decide) (by show 4≤16;decide) (yB hs)).mono ?_
  rintro e wp ⟨r,rfl,tr,hb5⟩
  have HBp:=Lib.hid (HBwb.out.below hb5 HBwb.out.lt)
  have HBEp:=Lib.hid (HBEwb.out.trans (hb5.mono HBEwb.out.size))
  have HTR:=Lib.hid (show ak r (beBytes 8 s.gen.toNat++beBytes 4 s.tail.toNat++beBytes 4 s.epoch.toNat++beBytes 8 s.clock.toNat)from by rw[←rO];exact tr)
  clear hb5 tr
  (try go_wp2_with fail)
  refine hK.out _ _ (HBp.out) (fun hHeld2=> ?_)
  clear hK K hHeld
  have hHeld:=hHeld2
  clear hHeld2
  (try go_frame)
  refine hp 11 ?_ (hy:=by intro w hSw;(try dsimp only at hSw);(have a0:=hSw.cell (i:=0) rfl);(have a1:=hSw.cell (i:=1) rfl);(have a2:=hSw.cell (i:=2) rfl);(have a3:=hSw.cell (i:=3) rfl);go_simp;first|done|with_reducible rfl)
  refine hp 12 ?_ (hy:=by intro w hSw;(try dsimp only at hSw);(have a0:=hSw.cell (i:=0) rfl);(have a1:=hSw.cell (i:=1) rfl);(have a2:=hSw.cell (i:=2) rfl);(have a3:=hSw.cell (i:=3) rfl);go_simp;first|done|with_reducible rfl)
  refine hp 13 ?_ (hy:=by intro w hSw;(try dsimp only at hSw);(have a0:=hSw.cell (i:=0) rfl);(have a1:=hSw.cell (i:=1) rfl);(have a2:=hSw.cell (i:=2) rfl);(have a3:=hSw.cell (i:=3) rfl);go_simp;first|done|with_reducible rfl)
  refine hp 14 ?_ (hy:=by intro w hSw;(try dsimp only at hSw);(have a0:=hSw.cell (i:=0) rfl);(have a1:=hSw.cell (i:=1) rfl);(have a2:=hSw.cell (i:=2) rfl);(have a3:=hSw.cell (i:=3) rfl);go_simp;first|done|with_reducible rfl)
  refine hp 15 ?_ (hy:=by intro w hSw;(try dsimp only at hSw);(have a0:=hSw.cell (i:=0) rfl);(have a1:=hSw.cell (i:=1) rfl);(have a2:=hSw.cell (i:=2) rfl);(have a3:=hSw.cell (i:=3) rfl);go_simp;first|done|with_reducible rfl)
  refine wpAnyH_done (by kernel_rfl) ?_ _
  go_wp2_with (first
   |((with_reducible refine ag 31 (.tmp 30) b1 4 s.geo.cells _ (some 31) (lM HBp.out) Tryz.underlying31 rfl bP ?hg ?ho ?hds ?hx ?_);(case ho|hg|hds|hx=>rfl))
   |fail)
  refine(kJ s.geo _ hs.geo).mono ?_
  rintro e w6 ⟨g,rfl,tg,hb6⟩
  have HTG:=Lib.hid tg
  have HBE6:=Lib.hid (HBEp.out.trans (hb6.mono HBEp.out.size))
  clear tg hb6
  have hr:r.size=24:=by rw[HTR.out.size];simp[beBytes_length]
  have hg:g.size=12:=by rw[HTG.out.size,gV]
  go_upto_region 7 with fail
  obtain⟨t,ht⟩:∃t,(⟨#[107,101,101,112,115,97,107,101,49]⟩:ByteArray)++r++g=t:=⟨_,rfl⟩
  rw[ht]
  have hts:t.size=45:=by rw[←ht,ByteArray.size_append,ByteArray.size_append,hr,hg];rfl
  have HTT:=Lib.hid (show ak t (eI s) by rw[←ht];exact((show ak (⟨#[107,101,101,112,115,97,107,101,49]⟩:ByteArray) kd from rfl).append HTR.out).append HTG.out)
  clear ht hr hg
  go_wp2_with fail
  refine(mf t _ _ (by omega)).mono ?_
  rintro e w7 ⟨q,rfl,tq,hb7⟩
  have hq:q.size=32:=by rw[tq.size,cJ]
  have HTQ:=Lib.hid (show ak q (de (eI s))from tq.cast (by rw[show t.data.toList= _ from HTT.out]))
  have HBE7:=Lib.hid (HBE6.out.trans (hb7.mono HBE6.out.size))
  clear tq hb7
  go_wp2_with fail
  refine(gv (t++q) 4096 _ (by rw[ByteArray.size_append,hts,hq];decide) (by decide)).mono ?_
  rintro e w8 ⟨z,rfl,tz,hb8⟩
  have HBE8:=Lib.hid (HBE7.out.trans (hb8.mono HBE7.out.size))
  have HTZ:=Lib.hid (show ak z (eB s)from tz.cast (by unfold eB;rw[show(t++q).data.toList= _ from HTT.out.append HTQ.out]))
  clear tz hb8
  go_wp2_with fail
  go_ret2
  exact⟨z,rfl,HTZ.out,HBE8.out⟩
 ·go_simp
  obtain⟨wa,hw4⟩:∃w4,w4=wd.alloc (Obj.cells #[Value.int IntKind.i64 s.gen,Value.int IntKind.i64 s.tail,Value.int IntKind.i64 s.epoch,Value.int IntKind.i64 s.clock] 3):=⟨_,rfl⟩
  rw[←hw4]
  have hb4:Below wd.heap.size wd wa:=by rw[hw4];exact(Below.refl _ _).alloc (Nat.le_refl _) _
  have B4:ac wa wd.heap.size [.int .i64 s.gen, .int .i64 s.tail, .int .i64 s.epoch, .int .i64 s.clock] 3:=by rw[hw4];exact ac.new wd _ _
  have HGwa:=Lib.hid B4
  have HBwa:=Lib.hid (HBwd.out.below hb4 HBwd.out.lt)
  have HBEwa:=Lib.hid (HBEwd.out.trans (hb4.mono HBEwd.out.size))
  skip
  clear hb4 B4 hw4
  (try go_wp2_with fail)
  refine hK.out _ _ (HBwa.out) (fun hHeld2=> ?_)
  clear hK K hHeld
  have hHeld:=hHeld2
  clear hHeld2
  (try go_frame)
  refine wpAnyH_ready (rs:=[0]) (by kernel_rfl) (by simp) ?_
  refine AllReadyH.cons rfl (fun K hK=> ?_) AllReadyH.nil
  go_simp
  refine(gw _).mono ?_
  rintro e wb ⟨⟨vw,rfl,hvw⟩,hb3⟩
  have HBwb:=Lib.hid (HBwa.out.below hb3 HBwa.out.lt)
  have HBEwb:=Lib.hid (HBEwa.out.trans (hb3.mono HBEwa.out.size))
  have HVWwb:=Lib.hid hvw
  have HGwb:=Lib.hid (HGwa.out.below hb3 HGwa.out.lt)
  clear hb3 hvw
  (try go_wp2_with fail)
  refine hK.out _ _ (HBwb.out) (fun hHeld2=> ?_)
  clear hK K hHeld
  have hHeld:=hHeld2
  clear hHeld2
  (try go_frame)
  refine wpAnyH_ready (rs:=[10]) (by kernel_rfl) (by simp) ?_
  refine AllReadyH.cons rfl (fun K hK=> ?_) AllReadyH.nil
  go_simp
  refine(gK _ _ dn [s.gen,s.tail,s.epoch,s.clock] _ HVWwb.out (bF.blk (xs:=[s.gen,s.tail,s.epoch,s.clock]) HGwb.out rfl 4) (by show 0<4;decide) (by show 4≤16;decide) (yB hs)).mono ?_
  rintro e wp ⟨r,rfl,tr,hb5⟩
  have HBp:=Lib.hid (HBwb.out.below hb5 HBwb.out.lt)
  have HBEp:=Lib.hid (HBEwb.out.trans (hb5.mono HBEwb.out.size))
  have HTR:=Lib.hid (show ak r (beBytes 8 s.gen.toNat++beBytes 4 s.tail.toNat++beBytes 4 s.epoch.toNat++beBytes 8 s.clock.toNat)from by rw[←rO];exact tr)
  clear hb5 tr
  (try go_wp2_with fail)
  refine hK.out _ _ (HBp.out) (fun hHeld2=> ?_)
  clear hK K hHeld
  have hHeld:=hHeld2
  clear hHeld2
  (try go_frame)
  refine hp 11 ?_ (hy:=by intro w hSw;(try dsimp only at hSw);(have a0:=hSw.cell (i:=0) rfl);(have a1:=hSw.cell (i:=1) rfl);(have a2:=hSw.cell (i:=2) rfl);(have a3:=hSw.cell (i:=3) rfl);go_simp;first|done|with_reducible rfl)
  refine hp 12 ?_ (hy:=by intro w hSw;(try dsimp only at hSw);(have a0:=hSw.cell (i:=0) rfl);(have a1:=hSw.cell (i:=1) rfl);(have a2:=hSw.cell (i:=2) rfl);(have a3:=hSw.cell (i:=3) rfl);go_simp;first|done|with_reducible rfl)
  refine hp 13 ?_ (hy:=by intro w hSw;(try dsimp only at hSw);(have a0:=hSw.cell (i:=0) rfl);(have a1:=hSw.cell (i:=1) rfl);(have a2:=hSw.cell (i:=2) rfl);(have a3:=hSw.cell (i:=3) rfl);go_simp;first|done|with_reducible rfl)
  refine hp 14 ?_ (hy:=by intro w hSw;(try dsimp only at hSw);(have a0:=hSw.cell (i:=0) rfl);(have a1:=hSw.cell (i:=1) rfl);(have a2:=hSw.cell (i:=2) rfl);(have a3:=hSw.cell (i:=3) rfl);go_simp;first|done|with_reducible rfl)
  refine hp 15 ?_ (hy:=by intro w hSw;(try dsimp only at hSw);(have a0:=hSw.cell (i:=0) rfl);(have a1:=hSw.cell (i:=1) rfl);(have a2:=hSw.cell (i:=2) rfl);(have a3:=hSw.cell (i:=3) rfl);go_simp;first|done|with_reducible rfl)
  refine wpAnyH_done (by kernel_rfl) ?_ _
  go_wp2_with (first
   |((with_reducible refine ag 31 (.tmp 30) b1 4 s.geo.cells _ (some 31) (lM HBp.out) Tryz.underlying31 rfl bP ?hg ?ho ?hds ?hx ?_);(case ho|hg|hds|hx=>rfl))
   |fail)
  refine(kJ s.geo _ hs.geo).mono ?_
  rintro e w6 ⟨g,rfl,tg,hb6⟩
  have HTG:=Lib.hid tg
  have HBE6:=Lib.hid (HBEp.out.trans (hb6.mono HBEp.out.size))
  clear tg hb6
  have hr:r.size=24:=by rw[HTR.out.size];simp[beBytes_length]
  have hg:g.size=12:=by rw[HTG.out.size,gV]
  go_upto_region 7 with fail
  obtain⟨t,ht⟩:∃t,(⟨#[107,101,101,112,115,97,107,101,49]⟩:ByteArray)++r++g=t:=⟨_,rfl⟩
  rw[ht]
  have hts:t.size=45:=by rw[←ht,ByteArray.size_append,ByteArray.size_append,hr,hg];rfl
  have HTT:=Lib.hid (show ak t (eI s) by rw[←ht];exact((show ak (⟨#[107,101,101,112,115,97,107,101,49]⟩:ByteArray) kd from rfl).append HTR.out).append HTG.out)
  clear ht hr hg
  go_wp2_with fail
  refine(mf t _ _ (by omega)).mono ?_
  rintro e w7 ⟨q,rfl,tq,hb7⟩
  have hq:q.size=32:=by rw[tq.size,cJ]
  have HTQ:=Lib.hid (show ak q (de (eI s))from tq.cast (by rw[show t.data.toList= _ from HTT.out]))
  have HBE7:=Lib.hid (HBE6.out.trans (hb7.mono HBE6.out.size))
  clear tq hb7
  go_wp2_with fail
  refine(gv (t++q) 4096 _ (by rw[ByteArray.size_append,hts,hq];decide) (by decide)).mono ?_
  rintro e w8 ⟨z,rfl,tz,hb8⟩
  have HBE8:=Lib.hid (HBE7.out.trans (hb8.mono HBE7.out.size))
  have HTZ:=Lib.hid (show ak z (eB s)from tz.cast (by unfold eB;rw[show(t++q).data.toList= _ from HTT.out.append HTQ.out]))
  clear tz hb8
  go_wp2_with fail
  go_ret2
  exact⟨z,rfl,HTZ.out,HBE8.out⟩
def bK (sv:Value) (db:Nat) (last:aD):List Value:=[sv, .pointer (some ⟨db,0,none⟩)]++last.cells++[.bool false]
theorem mU (jb db:Nat) (sv:Value) (d:am) (last s:aD) (w:World) (h:az w db d) (hj:ac w jb (bK sv db last) 176) (hne:jb∉d.foot db) (hs:gi s)
  (hd:d.down=false) (hl:d.left=0) (hc:d.cs.length<4096) (hb:d.bs.length≤1024) (hb2:2≤d.bs.length) (hin:∀(j:Nat) p,d.cs[j]?=some p→0≤p.1∧p.1<d.bs.length):
  Calls Tryz.prog 154 #[.pointer (some ⟨jb,0,none⟩),s.v] w fun e w'=>e= .returned (.int .i64 0)∧∃d' q,d'=(({d with cs:=d.cs++[(s.gen % 2,q)]}:am)).flushed∧ak q (eB s)∧az w' db d'∧ac w' jb (bK sv db s) 176∧ab (jb::d.foot db) w w'∧∀x,x∈d'.foot db→x∈d.foot db∨w.heap.size≤x:=by
 have hmf:∀(fn:Fn) (first cap:Array Value) (w:World),(Instr.makeFunc fn first cap).run Tryz.prog w= .ok (.func fn first cap) w:=fun _ _ _ _=>rfl
 have HH:=Lib.hid h
 have HJ:=Lib.hid hj
 have HNE:=Lib.hid hne
 have HS:=Lib.hid hs
 have HD:=Lib.hid hd
 have HLF:=Lib.hid hl
 have HC:=Lib.hid hc
 have HB:=Lib.hid (And.intro hb hb2)
 have HIN:=Lib.hid hin
 clear h hj hne hs hd hl hc hb hb2 hin
 go_enter Tryz.func154,Tryz.ntmps154
 go_wp2_with (first
  |((with_reducible refine ai 174 (.tmp 1) s.cells (some 3) ?hgd ?ho ?hd ?hx ?_);(case hgd|ho|hd|hx=>rfl);(intro b3 w1 l1 B1 e1 z1))
  |((with_reducible refine ag 174 (.tmp 3) b3 0 s.cells _ (some 9) B1.range Tryz.underlying174 rfl aZ ?hg ?ho ?hds ?hx ?_);(case ho|hg|hds|hx=>rfl))
  |fail)
 refine(oD s _ HS.out).mono ?_
 rintro e w2 ⟨q,rfl,tq,hb2⟩
 have hb12:=(e1.mono l1).trans (hb2.mono (Nat.le_trans l1 (Nat.le_of_lt z1)))
 have HTQ:=Lib.hid tq
 have HBw2:=Lib.hid (B1.below hb2 z1)
 have HL3:=Lib.hid l1
 have HJw2:=Lib.hid (HJ.out.below hb12 HJ.out.lt)
 have HDw2:=Lib.hid (HH.out.below hb12)
 have HBEw2:=Lib.hid hb12
 clear B1 e1 z1 l1 hb2 hb12 tq
 go_upto_region 4 with fail
 refine wp_region_held_drew (S:=fun wx=>wx.cell? ⟨b3,0,none⟩=some (.int .i64 s.gen)∧wx.cell? ⟨jb,1,none⟩=some (.pointer (some ⟨db,0,none⟩))) (by kernel_rfl) (⟨HBw2.out.cell (i:=0) rfl,HJw2.out.cell (i:=1) rfl⟩) (fun hHeld=> ?_)
 obtain⟨wd,hwd⟩:∃wd,wd=w2.drew:=⟨_,rfl⟩
 have HBwd:=Lib.hid (show ac wd b3 s.cells 174 from by rw[hwd];exact HBw2.out.drew)
 have HJwd:=Lib.hid (show ac wd jb (bK sv db last) 176 from by rw[hwd];exact HJw2.out.drew)
 have HDwd:=Lib.hid (show az wd db d from by rw[hwd];exact HDw2.out.below (Below.refl _ _).drew)
 have HBEwd:=Lib.hid (show Below w.heap.size w wd from by rw[hwd];exact HBEw2.out.drew)
 rw[←hwd]
 rw[←hwd]at hHeld
 clear hwd
 refine hp 0 ?_
 refine hp 1 ?_
 refine hp 2 ?_
 refine hp 3 ?_
 refine hp 5 ?_
 refine hp 7 ?_
 refine hp 8 ?_
 refine hp 9 ?_
 refine hp 10 ?_
 refine hp 11 ?_
 refine wpAnyH_ready (rs:=[4]) (by kernel_rfl) (by simp) ?_
 refine AllReadyH.cons rfl (fun K hK=> ?_) AllReadyH.nil
 go_simp
 refine(rJ s.gen _ (by have:=HS.out.g0;omega)).mono ?_
 rintro e w' ⟨rfl,rfl⟩
 (try go_wp2_with fail)
 refine hK.out _ _ (⟨HBwd.out.cell (i:=0) rfl,HJwd.out.cell (i:=1) rfl⟩) (fun hHeld2=> ?_)
 clear hK K hHeld
 have hHeld:=hHeld2
 clear hHeld2
 (try go_frame)
 refine wpAnyH_ready (rs:=[6]) (by kernel_rfl) (by simp) ?_
 refine AllReadyH.cons rfl (fun K hK=> ?_) AllReadyH.nil
 go_simp
 refine(gX jb (s.gen % 2) q _).mono ?_
 rintro e wa ⟨⟨p3,p4,p5,rfl,bE,g3,g4,g5⟩,hb6⟩
 have HBwa:=Lib.hid (HBwd.out.below hb6 HBwd.out.lt)
 have HJwa:=Lib.hid (HJwd.out.below hb6 HJwd.out.lt)
 have HDwa:=Lib.hid (HDwd.out.below hb6)
 have HBEwa:=Lib.hid (HBEwd.out.trans (hb6.mono HBEwd.out.size))
 have HSTa:=Lib.hid bE
 have HGE:=Lib.hid (And.intro g3 (And.intro g4 g5))
 have HLa:=Lib.hid hb6.size
 clear bE g3 g4 g5 hb6
 (try go_wp2_with fail)
 refine hK.out _ _ (⟨HBwa.out.cell (i:=0) rfl,HJwa.out.cell (i:=1) rfl⟩) (fun hHeld2=> ?_)
 clear hK K hHeld
 have hHeld:=hHeld2
 clear hHeld2
 (try go_frame)
 refine wpAnyH_ready (rs:=[12]) (by kernel_rfl) (by simp) ?_
 refine AllReadyH.cons rfl (fun K hK=> ?_) AllReadyH.nil
 go_simp
 obtain⟨wb,hwb⟩:∃wb,wb=wa.alloc (Obj.cells #[.func (.func 250) #[] #[.pointer (some ⟨p3,0,none⟩), .pointer (some ⟨p4,0,none⟩), .pointer (some ⟨p5,0,none⟩)], .func (.func 152) #[.pointer (some ⟨db,0,none⟩)] #[]] 48):=⟨_,rfl⟩
 rw[←hwb]
 have hb7:Below wa.heap.size wa wb:=by rw[hwb];exact(Below.refl _ _).alloc (Nat.le_refl _) _
 have hrow:ac wb wa.heap.size [.func (.func 250) #[] #[.pointer (some ⟨p3,0,none⟩), .pointer (some ⟨p4,0,none⟩), .pointer (some ⟨p5,0,none⟩)], .func (.func 152) #[.pointer (some ⟨db,0,none⟩)] #[]] 48:=by rw[hwb];exact ac.new wa [.func (.func 250) #[] #[.pointer (some ⟨p3,0,none⟩), .pointer (some ⟨p4,0,none⟩), .pointer (some ⟨p5,0,none⟩)], .func (.func 152) #[.pointer (some ⟨db,0,none⟩)] #[]] 48
 have HBwb:=Lib.hid (HBwa.out.below hb7 HBwa.out.lt)
 have HJwb:=Lib.hid (HJwa.out.below hb7 HJwa.out.lt)
 have HDwb:=Lib.hid (HDwa.out.below hb7)
 have HBEwb:=Lib.hid (HBEwa.out.trans (hb7.mono HBEwa.out.size))
 have HROW:=Lib.hid hrow
 have HSTb:=Lib.hid (HSTa.out.below hb7)
 clear hrow hb7 hwb
 (try go_wp2_with fail)
 refine hK.out _ _ (⟨HBwb.out.cell (i:=0) rfl,HJwb.out.cell (i:=1) rfl⟩) (fun hHeld2=> ?_)
 clear hK K hHeld
 have hHeld:=hHeld2
 clear hHeld2
 (try go_frame)
 refine wpAnyH_ready (rs:=[13]) (by kernel_rfl) (by simp) ?_
 refine AllReadyH.cons rfl (fun K hK=> ?_) AllReadyH.nil
 go_simp
 refine(wI jb db wa.heap.size 2 p3 p4 p5 48 d (s.gen % 2) q _ HDwb.out HROW.out (HJwb.out.cell (i:=1) rfl) HJwb.out.lt HSTb.out (by
  intro x hx hm
  have hlt:=HDwd.out.lt x hm
  have h1:=HGE.out
  have h2:=HLa.out
  rcases hx with rfl|rfl|rfl|rfl|rfl
  ·omega
  ·exact HNE.out hm
  ·omega
  ·omega
  ·omega) HD.out HLF.out HC.out HB.out.1 HIN.out (by have:=HS.out.g0;omega) (by have:=HB.out.2;omega) (by rw[HTQ.out.size,lG])).mono ?_
 rintro e wc ⟨rfl,d',hd',ht⟩
 have HB3N:=Lib.hid (show b3∉d.foot db from fun hm=>by have:=HH.out.lt b3 hm;have:=HL3.out;omega)
 have HBwc:=Lib.hid (ht.turned.blk HBwb.out HB3N.out)
 have HJwc:=Lib.hid (ht.turned.blk HJwb.out HNE.out)
 have HT:=Lib.hid ht
 have HDD:=Lib.hid hd'
 clear ht hd'
 (try go_wp2_with fail)
 refine hK.out _ _ (⟨HBwc.out.cell (i:=0) rfl,HJwc.out.cell (i:=1) rfl⟩) (fun hHeld2=> ?_)
 clear hK K hHeld
 have hHeld:=hHeld2
 clear hHeld2
 (try go_frame)
 refine hp 14 ?_
 refine wpAnyH_done (by kernel_rfl) ?_ _
 have hlen:2+s.cells.length≤(bK sv db last).length:=by show 9≤10;decide
 go_wp2_with (first
  |((with_reducible refine ag 174 (.tmp 3) b3 0 s.cells _ (some 34) HBwc.out.range Tryz.underlying174 rfl aZ ?hg ?ho ?hds ?hx ?_);(case ho|hg|hds|hx=>rfl))
  |((with_reducible refine bG 174 (.tmp 36) (.tmp 34) jb 2 s.cells (bK sv db last) 176 HJwc.out hlen aZ (dy _) ?hgd ?ho ?hx ?hy ?_);(case hgd|ho|hx|hy=>rfl);(intro we Be oe))
  |fail)
 go_ret
 have hjl:=HJwb.out.lt
 have t1:ab (jb::d.foot db) w wb:=ab.of_below HBEwb.out (Nat.le_refl _)
 have t2:ab (jb::d.foot db) wb wc:=HT.out.turned.mono (fun x hx=>List.mem_cons_of_mem _ hx)
 have t3:ab (jb::d.foot db) wc we:=oe.turned (by simp)
 have hsz:=HBEwb.out.size
 have hjn:jb∉d'.foot db:=fun hm=>(HT.out.foot jb hm).elim HNE.out (fun h9=>by omega)
 refine⟨rfl,d',q,HDD.out,HTQ.out,HT.out.at'.turned (oe.turned (S:=[jb]) (by simp)) (fun x hx hm=>by simp at hm;subst hm;exact hjn hx),Be,t1.trans (t2.trans t3),fun x hx=>(HT.out.foot x hx).elim .inl (fun h9=> .inr (Nat.le_trans hsz h9))⟩
structure kq (w:World) (db pf pt pd:Nat) (a z:Int):Prop where
 f:ac w pf [.int .i64 a] 3
 t:ac w pt [.int .i64 z] 3
 d:ac w pd [.pointer (some ⟨db,0,none⟩)] 32
theorem kq.below {w w':World} {db pf pt pd:Nat} {a z:Int} (h:kq w db pf pt pd a z) (hb:Below w.heap.size w w'):kq w' db pf pt pd a z:=
 ⟨h.f.below hb h.f.lt,h.t.below hb h.t.lt,h.d.below hb h.d.lt⟩
theorem oG (db:Nat) (a z:Int) (w:World):
  Calls Tryz.prog 147 #[.pointer (some ⟨db,0,none⟩), .int .i64 a, .int .i64 z] w fun e w'=>(∃pf pt pd,e= .returned (.func (.func 248) #[] #[.pointer (some ⟨pf,0,none⟩), .pointer (some ⟨pt,0,none⟩), .pointer (some ⟨pd,0,none⟩)])∧kq w' db pf pt pd a z)∧Below w.heap.size w w':=by
 have hmf:∀(fn:Fn) (first cap:Array Value) (w:World),(Instr.makeFunc fn first cap).run Tryz.prog w= .ok (.func fn first cap) w:=fun _ _ _ _=>rfl
 go_enter Tryz.func147,Tryz.ntmps147
 go_wp2_with (first
  |((with_reducible refine aw 32 (.tmp 0) (.pointer (some ⟨db,0,none⟩)) rfl (some 3) ?hgd ?ho ?hd ?hx ?_);(case hgd|ho|hd|hx=>rfl);(intro b1 w1 l1 B1 e1 z1))
  |((with_reducible refine aw 3 (.tmp 1) (.int .i64 a) rfl (some 4) ?hgd ?ho ?hd ?hx ?_);(case hgd|ho|hd|hx=>rfl);(intro b2 w2 l2 B2 e2 z2))
  |((with_reducible refine aw 3 (.tmp 2) (.int .i64 z) rfl (some 5) ?hgd ?ho ?hd ?hx ?_);(case hgd|ho|hd|hx=>rfl);(intro b3 w3 l3 B3 e3 z3))
  |fail)
 go_ret
 have g1:w.heap.size≤b2:=Nat.le_trans l1 (Nat.le_of_lt (Nat.lt_of_lt_of_le z1 l2))
 have g2:w.heap.size≤b3:=Nat.le_trans g1 (Nat.le_of_lt (Nat.lt_of_lt_of_le z2 l3))
 exact⟨⟨b2,b3,b1,rfl,⟨B2.below e3 (Nat.lt_of_lt_of_le z2 l3),B3,(B1.below e2 (Nat.lt_of_lt_of_le z1 l2)).below e3 (by omega)⟩⟩,((e1.mono l1).trans (e2.mono g1)).trans (e3.mono g2)⟩
theorem mV (yv:Value) (db pf pt pd:Nat) (d:am) (a z:Nat) (w:World) (h:az w db d) (hu:kq w db pf pt pd a z) (haz:a≤z) (hz:z≤d.bs.length)
  (hd:d.down=false) (hc:d.cs.length≤4096) (hb:d.bs.length≤1024) (hsh:∀i,a≤i→i<z→d.shown i=(⟨(List.replicate 4096 0).toArray⟩:ByteArray)):
  Calls Tryz.prog 248 #[yv, .pointer (some ⟨pf,0,none⟩), .pointer (some ⟨pt,0,none⟩), .pointer (some ⟨pd,0,none⟩)] w fun e w'=>e= .returned (.tuple #[])∧Below w.heap.size w w':=by
 have HH:=Lib.hid h
 have HU:=Lib.hid hu
 have HD:=Lib.hid hd
 have HC:=Lib.hid hc
 have HB:=Lib.hid hb
 have HZ:=Lib.hid hz
 have hemp:=iK
 obtain⟨nb,hnb⟩:∃nb,(⟨(List.replicate 4096 0).toArray⟩:ByteArray)=nb:=⟨_,rfl⟩
 rw[hnb]at hsh hemp
 have HSH:=Lib.hid hsh
 have HEMP:=Lib.hid hemp
 have c1:=hu.f.cell (i:=0) rfl
 clear h hu hd hc hb hz hsh hemp hnb
 go_enter Tryz.func248,Tryz.ntmps248
 go_wp2_with fail
 clear c1
 go_loopw [5] (fun v wr=>∃k:Nat,a≤k∧k≤z∧v= .int .i64 k∧Below w.heap.size w wr) (fun v _=>z-(intOf v).toNat)
 case atStart=>exact⟨a,Nat.le_refl _,haz,rfl,Below.refl _ _⟩
 case round=>
  obtain⟨k,hk0,hk,rfl,hbel⟩:=hrel
  have HBE:=Lib.hid hbel
  have HUr:=Lib.hid (HU.out.below hbel)
  have HDr:=Lib.hid (HH.out.below hbel)
  clear hbel
  have c2:=HUr.out.t.cell (i:=0) rfl
  have c3:=HUr.out.d.cell (i:=0) rfl
  by_cases hlt:k<z
  ·have hlt':(k:Int)<z:=by omega
   have hk9:(k:Int)≤1024:=by have:=HZ.out;have:=HB.out;omega
   go_wp2_with fail
   refine(ff db d _ HDr.out HD.out k (Nat.lt_of_lt_of_le hlt HZ.out) HC.out HB.out).mono ?_
   rintro e w' ⟨rfl,rfl⟩
   rw[HSH.out k hk0 hlt]
   go_wp2_with fail
   refine(HEMP.out _).mono ?_
   rintro e w2 ⟨rfl,hb2⟩
   have HB2:=Lib.hid (HBE.out.trans (hb2.mono HBE.out.size))
   clear hb2
   go_wp2_with fail
   go_roundw
   case rel=>exact⟨k+1,by omega,by omega,by go_num,HB2.out⟩
   case measure=>simp[intOf];omega
  ·obtain rfl:k=z:=by omega
   go_wp2_with fail
   go_end0
   exact⟨rfl,HBE.out⟩
end Go.Proofs.YtngiibgdgenidaaGreat
