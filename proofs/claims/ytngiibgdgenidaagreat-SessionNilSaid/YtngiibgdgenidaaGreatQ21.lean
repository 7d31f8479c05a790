/- Walks of wire's part: take, number, wide, both ways (chapter 27). Walks of wire's part: flag, ask, leaf, both ways (chapter 27). The equality of two leaves, of two asked places, of two receipts and sealed records, as one step. Walks of wire's part: ask, leaf, both ways (chapter 27). -/
import Derived.Test.YtngiibgdgenidaaGreatQ20
import Derived.Test.YtngiibgdgenidaaGreatQ4
import Derived.WalkLawsBesides
import Derived.Test.YtngiibgdgenidaaGreatQ15
import Derived.Test.YtngiibgdgenidaaGreatQ14
set_option linter.unusedSimpArgs false
set_option linter.unusedVariables false
set_option maxRecDepth 100000
set_option maxHeartbeats 4000000
namespace Go.Proofs.YtngiibgdgenidaaGreat
open Go Go.RowKit
def aI (w:World) (q:Nat) (s:ByteArray) (rd br:Bool):Prop:=ac w q [.string s, .bool rd, .bool br] 199
def jI:List PanicEntry:=[{v:= .iface 350 (.agg #[]),recovered:=false}]
theorem aI.below {w w':World} {q:Nat} {s:ByteArray} {rd br:Bool} (h:aI w q s rd br) {B:Nat} (hb:Below B w w') (hB:q<B):aI w' q s rd br:=ac.below h hb hB
theorem aI.turned {w w':World} {q:Nat} {s:ByteArray} {rd br:Bool} {S:List Nat} (h:aI w q s rd br) (ht:ab S w w') (hn:q∉S):aI w' q s rd br:=ht.blk h hn
theorem aI.lt {w:World} {q:Nat} {s:ByteArray} {rd br:Bool} (h:aI w q s rd br):q<w.heap.size:=ac.lt h
theorem aI.c0 {w:World} {q:Nat} {s:ByteArray} {rd br:Bool} (h:aI w q s rd br):w.cell? ⟨q,0,none⟩=some (.string s):=ac.cell h rfl
theorem aI.c1 {w:World} {q:Nat} {s:ByteArray} {rd br:Bool} (h:aI w q s rd br):w.cell? ⟨q,1,none⟩=some (.bool rd):=ac.cell h rfl
theorem aI.c2 {w:World} {q:Nat} {s:ByteArray} {rd br:Bool} (h:aI w q s rd br):w.cell? ⟨q,2,none⟩=some (.bool br):=ac.cell h rfl
theorem aI.set {w:World} {q:Nat} {s:ByteArray} {rd br:Bool} (h:aI w q s rd br) (t:ByteArray):aI (w.setCell ⟨q,0,none⟩ (.string t)) q t rd br:=ac.set h 0 (.string t)
theorem qi (q:Nat) (s:ByteArray) (br:Bool) (k:Nat) (w:World) (hp:aI w q s true br) (hs:s.size≤1048576) (hk:k≤1048576):
  Calls Tryz.prog 226 #[.pointer (some ⟨q,0,none⟩), .int .i64 k] w fun e w'=>
   (s.size<k∧e= .panicked jI∧w=w')∨(k≤s.size∧e= .returned (.string (s.extract 0 k))∧w'=w.setCell ⟨q,0,none⟩ (.string (s.extract k s.size))):=by
 have c0:=hp.c0
 have f0:=ac.free hp 0
 by_cases h:s.size<k
 ·have h':(s.size:Int)<k:=by omega
  clear hp
  go_enter Tryz.func226,Tryz.ntmps226
  go_wp2_with fail
  exact⟨rfl, .inl ⟨h,rfl,rfl⟩⟩
 ·have h':(k:Int)≤s.size:=by omega
  have h0:(0:Int)≤k:=by omega
  have HP:=Lib.hid hp;clear hp
  go_enter Tryz.func226,Tryz.ntmps226
  go_wp2_with fail
  go_ret
  exact .inr ⟨by omega,rfl,rfl⟩
theorem ak.extend {s r:ByteArray} {l:List UInt8} (h:ak r l):ak (s++r) (s.data.toList++l):=(ak.self s).append h
theorem uU (q:Nat) (s:ByteArray) (br:Bool) (b i n k:Nat) (w:World) (hp:aI w q s false br) (ha:w.cell? ⟨b,i,none⟩=some (.int .i64 (n:Int)))
  (h1:1≤k) (h2:k≤8) (hn:n<9223372036854775808) (hf:k<8→n<256^k) (hs:s.size≤1048576):
  Calls Tryz.prog 120 #[.pointer (some ⟨q,0,none⟩), .pointer (some ⟨b,i,none⟩), .int .i64 k] w fun e w'=>
   e= .returned (.tuple #[])∧∃s',ak s' (s.data.toList++beBytes k n)∧aI w' q s' false br∧Kept q w w':=by
 have c1:=hp.c1
 have HP:=Lib.hid hp;clear hp
 go_enter Tryz.func120,Tryz.ntmps120
 go_wp2_with fail
 refine(mC n k _ h1 h2 hn hf).mono ?_
 rintro e w1 ⟨r,rfl,tr,hb1⟩
 have P1:=Lib.hid (HP.out.below hb1 HP.out.lt)
 have hr:r.size≤8:=by rw[tr.size,beBytes_length];exact h2
 have c0:=P1.out.c0
 have f0:=ac.free P1.out 0
 have TR:=Lib.hid tr;have HB:=Lib.hid hb1
 clear tr hb1 ha c1
 go_wp2_with fail
 go_end0
 refine⟨rfl,_,TR.out.extend,P1.out.set _, ?_⟩
 exact(Kept.below' (Kept.refl q w) HB.out (Nat.le_refl _)).setCell 0 _
theorem sV (l:List UInt8) (k:Nat) (hk:k≤7):aW (l.take k)<9223372036854775808:=by
 have h1:=iu (l.take k)
 have h2:(l.take k).length≤7:=by rw[List.length_take];omega
 have h3:256^(l.take k).length≤256^7:=Nat.pow_le_pow_right (by omega) h2
 omega
theorem D8 (q:Nat) (s:ByteArray) (br:Bool) (b i k:Nat) (cs:List Value) (t:TypeId) (w:World) (hp:aI w q s true br) (hb:ac w b cs t) (hi:i<cs.length) (hne:b≠q)
  (h1:1≤k) (h2:k≤7) (hs:s.size≤1048576):
  Calls Tryz.prog 120 #[.pointer (some ⟨q,0,none⟩), .pointer (some ⟨b,i,none⟩), .int .i64 k] w fun e w'=>
   (s.size<k∧e= .panicked jI∧w=w')∨(k≤s.size∧e= .returned (.tuple #[])∧aI w' q (s.extract k s.size) true br∧ac w' b (cs.set i (.int .i64 ((aW (s.data.toList.take k):Nat):Int))) t∧ab [q,b] w w'):=by
 have c1:=hp.c1
 have HP:=Lib.hid hp;clear hp
 have HBL:=Lib.hid hb
 have HI:=Lib.hid hi
 have fb:=hb.free i
 obtain⟨u,hu⟩:∃u,w.cell? ⟨b,i,none⟩=some u:=⟨_,hb.cell (List.getElem?_eq_getElem hi)⟩
 clear hb hi
 go_enter Tryz.func120,Tryz.ntmps120
 go_wp2_with fail
 refine(qi q s br k _ HP.out hs (by omega)).mono ?_
 rintro e w1 (⟨h,rfl,rfl⟩|⟨h,rfl,rfl⟩)
 ·go_wp2_with fail
  exact⟨rfl, .inl ⟨h,rfl,rfl⟩⟩
 ·have HH:=Lib.hid h;clear h
  go_wp2_with fail
  refine(iJ (s.extract 0 k) _).mono ?_
  rintro e w2 ⟨he,rfl⟩
  have hl:(s.extract 0 k).data.toList=s.data.toList.take k:=by
   have:=(ak.self s).extract 0 k
   rw[List.drop_zero]at this
   exact this
  rcases he with⟨_,rfl⟩|⟨hno,_⟩
  rotate_left
  ·exfalso
   apply hno
   rw[hl]
   have h3:(s.data.toList.take k).length=k:=by
    rw[List.length_take]
    have:s.data.toList.length=s.size:=rfl
    have:=HH.out
    omega
   exact⟨by omega,by omega,sV _ k h2⟩
  rw[hl]
  have B1:ac (w.setCell ⟨q,0,none⟩ (.string (s.extract k s.size))) b cs t:=HBL.out.set_other hne _
  have P1:=Lib.hid (HP.out.set (s.extract k s.size))
  have T1:ab [q,b] w (w.setCell ⟨q,0,none⟩ (.string (s.extract k s.size))):=(ab.refl _ _).setCell (.inl (by simp)) 0 _
  obtain⟨W,hW⟩:∃W,W=w.setCell ⟨q,0,none⟩ (.string (s.extract k s.size)):=⟨_,rfl⟩
  rw[←hW]at B1 P1 T1 ⊢
  have fb1:=B1.free i
  obtain⟨u1,hu1⟩:∃u,W.cell? ⟨b,i,none⟩=some u:=⟨_,B1.cell (List.getElem?_eq_getElem HI.out)⟩
  have BB:=Lib.hid B1;have TT:=Lib.hid T1
  clear B1 T1 hW hu fb c1 hl
  go_wp2_with fail
  first|go_end0|((try simp only[Exit.inBlock,Exit.then]);refine bodyPost_ret (results_none rfl _ _ _) rfl ?_)
  refine .inr ⟨HH.out,rfl, ?_,BB.out.set i _,TT.out.setCell (.inl (by simp)) i _⟩
  exact ac.set_other P1.out (fun e=>hne e.symm) _
structure ra (w w':World) (q b:Nat) (rd br:Bool) (s':List UInt8) (cs':List Value) (t:TypeId):Prop where
 part:∃p,ak p s'∧aI w' q p rd br
 blk:ac w' b cs' t
 turned:ab [q,b] w w'
structure np (w w':World) (q b:Nat) (n:Nat) (t:TypeId):Prop where
 blk:∃cs':List Value,cs'.length=n∧ac w' b cs' t
 turned:ab [q,b] w w'
theorem set_self {l:List Value} {i:Nat} {v:Value} (h:l[i]?=some v):l.set i v=l:=by
 obtain⟨hi,rfl⟩:=List.getElem?_eq_some_iff.1 h
 exact List.set_getElem_self hi
theorem ak.rest {s:ByteArray} (k:Nat):ak (s.extract k s.size) (s.data.toList.drop k):=((ak.self s).extract k s.size).cast (by rw[List.take_of_length_le (show s.data.toList.length≤s.size from Nat.le_refl _)])
def iP {α:Type} (w:World) (q b:Nat) (rd br:Bool) (n:Nat) (t:TypeId) (r:Option (α×List UInt8)) (cs':α→List Value) (e:Ending) (w':World):Prop:=
 match r with
 |none=>e= .panicked jI∧np w w' q b n t
 |some (x,s')=>e= .returned (.tuple #[])∧ra w w' q b rd br s' (cs' x) t
theorem ra.sofar {u w w':World} {q b:Nat} {rd br:Bool} {s':List UInt8} {cs':List Value} {t:TypeId} (h:ra w w' q b rd br s' cs' t) (k:ab [q,b] u w):ra u w' q b rd br s' cs' t:=⟨h.part,h.blk,k.trans h.turned⟩
theorem np.sofar {u w w':World} {q b n:Nat} {t:TypeId} (h:np w w' q b n t) (k:ab [q,b] u w):np u w' q b n t:=⟨h.blk,k.trans h.turned⟩
theorem bY (q:Nat) (s:ByteArray) (rd br:Bool) (b i k:Nat) (n:Int) (cs:List Value) (t:TypeId) (w:World) (hp:aI w q s rd br) (hb:ac w b cs t) (hi:cs[i]?=some (.int .i64 n)) (hne:b≠q)
  (h1:1≤k) (h2:k≤7) (hf:rd=false→0≤n∧n.toNat<256^k) (hs:s.size≤1048576):
  Calls Tryz.prog 120 #[.pointer (some ⟨q,0,none⟩), .pointer (some ⟨b,i,none⟩), .int .i64 k] w
   (iP w q b rd br cs.length t (bu rd k n s.data.toList) (fun x=>cs.set i (.int .i64 x))):=by
 cases rd with
 |false=>
  obtain⟨m,rfl⟩:∃m:Nat,n=(m:Int):=⟨n.toNat,by have:=(hf rfl).1;omega⟩
  have h3:m<256^k:=by simpa using(hf rfl).2
  have h4:256^k≤256^7:=Nat.pow_le_pow_right (by omega) h2
  refine(uU q s br b i m k w hp (hb.cell hi) h1 (by omega) (by omega) (fun _=>h3) hs).mono ?_
  rintro e w1 ⟨rfl,s',ts,hP,hK⟩
  refine⟨rfl,⟨s',ts,hP⟩, ?_,ab.of_kept hK (by simp)⟩
  show ac w1 b (cs.set i _) t
  rw[set_self hi]
  exact hK.blk hb hne
 |true=>
  have hl:s.data.toList.length=s.size:=rfl
  refine(D8 q s br b i k cs t w hp hb (List.getElem?_eq_some_iff.1 hi).1 hne h1 h2 hs).mono ?_
  rintro e w1 (⟨h,rfl,rfl⟩|⟨h,rfl,hP,hB,hT⟩)
  ·unfold bu
   rw[if_pos rfl,if_pos (by omega)]
   exact⟨rfl,⟨cs,rfl,hb⟩,ab.refl _ _⟩
  ·unfold bu
   rw[if_pos rfl,if_neg (by omega)]
   exact⟨rfl,⟨_,ak.rest k,hP⟩,hB,hT⟩
theorem BF (q:Nat) (s:ByteArray) (br:Bool) (b i:Nat) (x:ByteArray) (w:World) (hp:aI w q s false br) (ha:w.cell? ⟨b,i,none⟩=some (.string x)) (hs:s.size≤1048576) (hx:x.size≤1048576):
  Calls Tryz.prog 228 #[.pointer (some ⟨q,0,none⟩), .pointer (some ⟨b,i,none⟩)] w fun e w'=>
   e= .returned (.tuple #[])∧aI w' q (s++x) false br∧Kept q w w':=by
 have c0:=hp.c0
 have c1:=hp.c1
 have f0:=ac.free hp 0
 have HP:=Lib.hid hp;clear hp
 go_enter Tryz.func228,Tryz.ntmps228
 go_wp2_with fail
 go_region
 all_goals first|go_end0|((try simp only[Exit.inBlock,Exit.then]);refine bodyPost_ret (results_none rfl _ _ _) rfl ?_)
 all_goals first|exact⟨rfl,(HP.out.set _),((Kept.refl q w).setCell 0 _)⟩|exact⟨rfl,(HP.out.set _),((Kept.refl q w).setCell 0 _).drew⟩
theorem BG (q:Nat) (s:ByteArray) (br:Bool) (b i:Nat) (cs:List Value) (t:TypeId) (w:World) (hp:aI w q s true br) (hb:ac w b cs t) (hi:i<cs.length) (hne:b≠q) (hs:s.size≤1048576):
  Calls Tryz.prog 228 #[.pointer (some ⟨q,0,none⟩), .pointer (some ⟨b,i,none⟩)] w fun e w'=>
   (s.size<32∧e= .panicked jI∧w=w')∨(32≤s.size∧e= .returned (.tuple #[])∧aI w' q (s.extract 32 s.size) true br∧ac w' b (cs.set i (.string (s.extract 0 32))) t∧ab [q,b] w w'):=by
 have c1:=hp.c1
 have HP:=Lib.hid hp;clear hp
 have HBL:=Lib.hid hb
 have HI:=Lib.hid hi
 clear hb hi
 go_enter Tryz.func228,Tryz.ntmps228
 go_wp2_with fail
 refine(qi q s br 32 _ HP.out hs (by omega)).mono ?_
 rintro e w1 (⟨h,rfl,rfl⟩|⟨h,rfl,rfl⟩)
 ·go_wp2_with fail
  exact⟨rfl, .inl ⟨h,rfl,rfl⟩⟩
 ·have HH:=Lib.hid h;clear h
  have B1:ac (w.setCell ⟨q,0,none⟩ (.string (s.extract 32 s.size))) b cs t:=HBL.out.set_other hne _
  have P1:=Lib.hid (HP.out.set (s.extract 32 s.size))
  have T1:ab [q,b] w (w.setCell ⟨q,0,none⟩ (.string (s.extract 32 s.size))):=(ab.refl _ _).setCell (.inl (by simp)) 0 _
  obtain⟨W,hW⟩:∃W,W=w.setCell ⟨q,0,none⟩ (.string (s.extract 32 s.size)):=⟨_,rfl⟩
  rw[←hW]at B1 P1 T1 ⊢
  have fb1:=B1.free i
  obtain⟨u1,hu1⟩:∃u,W.cell? ⟨b,i,none⟩=some u:=⟨_,B1.cell (List.getElem?_eq_getElem HI.out)⟩
  have BB:=Lib.hid B1;have TT:=Lib.hid T1
  clear B1 T1 hW c1
  go_wp2_with fail
  first|go_end0|((try simp only[Exit.inBlock,Exit.then]);refine bodyPost_ret (results_none rfl _ _ _) rfl ?_)
  refine .inr ⟨HH.out,rfl, ?_,BB.out.set i _,TT.out.setCell (.inl (by simp)) i _⟩
  exact ac.set_other P1.out (fun e=>hne e.symm) _
theorem dJ (q:Nat) (s:ByteArray) (rd br:Bool) (b i:Nat) (x:ByteArray) (cs:List Value) (t:TypeId) (w:World) (hp:aI w q s rd br) (hb:ac w b cs t) (hi:cs[i]?=some (.string x)) (hne:b≠q)
  (hs:s.size≤1048576) (hx:rd=false→x.size≤1048576):
  Calls Tryz.prog 228 #[.pointer (some ⟨q,0,none⟩), .pointer (some ⟨b,i,none⟩)] w
   (iP w q b rd br cs.length t (cp rd x s.data.toList) (fun y=>cs.set i (.string y))):=by
 cases rd with
 |false=>
  refine(BF q s br b i x w hp (hb.cell hi) hs (hx rfl)).mono ?_
  rintro e w1 ⟨rfl,hP,hK⟩
  refine⟨rfl,⟨_,(ak.self x).extend,hP⟩, ?_,ab.of_kept hK (by simp)⟩
  show ac w1 b (cs.set i _) t
  rw[set_self hi]
  exact hK.blk hb hne
 |true=>
  have hl:s.data.toList.length=s.size:=rfl
  refine(BG q s br b i cs t w hp hb (List.getElem?_eq_some_iff.1 hi).1 hne hs).mono ?_
  rintro e w1 (⟨h,rfl,rfl⟩|⟨h,rfl,hP,hB,hT⟩)
  ·unfold cp
   rw[if_pos rfl,if_pos (by omega)]
   exact⟨rfl,⟨cs,rfl,hb⟩,ab.refl _ _⟩
  ·unfold cp
   rw[if_pos rfl,if_neg (by omega)]
   refine⟨rfl,⟨_,ak.rest 32,hP⟩, ?_,hT⟩
   have e1:s.extract 0 32=⟨(s.data.toList.take 32).toArray⟩:=(((ak.self s).extract 0 32).cast (by simp)).of
   show ac w1 b (cs.set i (.string ⟨(s.data.toList.take 32).toArray⟩)) t
   rw[←e1]
   exact hB
theorem ab.over {q b n:Nat} {u v w:World} (h:ab [q,b] u v) (k:ab [q,n] v w) (hn:u.heap.size≤n):ab [q,b] u w:=
 ⟨by rw[k.os,h.os],by rw[k.tape,h.tape],by rw[k.output,h.output],Nat.le_trans h.size k.size,fun i hi hs=>by
  simp only[List.mem_cons,List.mem_nil_iff,or_false,not_or]at hs
  rw[k.block i (Nat.lt_of_lt_of_le hi h.size) (by simp only[List.mem_cons,List.mem_nil_iff,or_false,not_or];exact⟨hs.1,by omega⟩),h.block i hi (by simp only[List.mem_cons,List.mem_nil_iff,or_false,not_or];exact hs)]⟩
theorem pF (q:Nat) (s:ByteArray) (rd br:Bool) (b i:Nat) (v:Bool) (cs:List Value) (t:TypeId) (w:World) (hp:aI w q s rd br) (hb:ac w b cs t) (hi:cs[i]?=some (.bool v)) (hne:b≠q) (hs:s.size≤1048576):
  Calls Tryz.prog 299 #[.pointer (some ⟨q,0,none⟩), .pointer (some ⟨b,i,none⟩)] w
   (iP w q b rd br cs.length t (cY rd v s.data.toList) (fun y=>cs.set i (.bool y))):=by
 have HP:=Lib.hid hp;have HBL:=Lib.hid hb;have HI:=Lib.hid hi
 clear hp hb hi
 cases v with
 |false=>
  go_enter Tryz.func299,Tryz.ntmps299
  go_wp2_with (first
   |((with_reducible refine aG 3 (.int .i64 0) (by intro w;kernel_rfl) rfl (some 4) ?hgd ?ho ?hd ?_);(case hgd|ho|hd=>rfl);(intro b2 w2 l2 B2 e2 z2);have BB2:=HBL.out.below e2 (Nat.lt_of_lt_of_le HBL.out.lt l2);have cc2:=BB2.cell HI.out;have PP2:=HP.out.below e2 (Nat.lt_of_lt_of_le HP.out.lt l2))
   |((with_reducible refine aj 3 (.tmp 4) (.const (.int .i64 0)) b2 0 (.int .i64 0) _ _ B2 (by simp) (by kernel_rfl) rfl ?hgd ?ho ?hx ?hy ?_);(case hgd|ho|hx|hy=>rfl);(intro w3 B3 o3);have BB3:=o3.blk BB2 (by have:=HBL.out.lt;omega);have cc3:=BB3.cell HI.out;have PP3:aI w3 q s rd br:=o3.blk PP2 (by have:=HP.out.lt;omega))
   |fail)
  have T0:ab [q,b] w w3:=⟨by rw[o3.os,e2.os],by rw[o3.tape,e2.tape],by rw[o3.output,e2.output],by rw[o3.size];exact e2.size,fun k hk hn=>by rw[o3.block k (by omega),e2.block k (by omega)]⟩
  have hbq:b2≠q:=by have:=HP.out.lt;omega
  have hbb:b≠b2:=by have:=HBL.out.lt;omega
  have HB:=Lib.hid BB3;have HPP:=Lib.hid PP3;have HT:=Lib.hid T0;have HN:=Lib.hid B3
  have hl2:=Lib.hid l2
  clear BB2 BB3 PP2 PP3 cc2 cc3 B2 B3 o3 e2 z2 l2 T0
  refine(bY q s rd br b2 0 1 0 [.int .i64 0] 3 _ HPP.out HN.out rfl hbq (by omega) (by omega) (fun _=>by decide) hs).mono ?_
  rintro e w5 he
  cases hn:bu rd 1 0 s.data.toList with
  |none=>
   rw[hn]at he
   obtain⟨rfl,hbad⟩:=he
   have hF:cY rd false s.data.toList=none:=by unfold cY;simp[hn]
   have HF:=Lib.hid hF
   have HBAD:=Lib.hid hbad
   clear hbad hn hF
   go_wp2_with fail
   refine⟨rfl, ?_⟩
   rw[HF.out]
   exact⟨rfl,⟨cs,rfl,HBAD.out.turned.blk HB.out (by simp;omega)⟩,HT.out.over HBAD.out.turned hl2.out⟩
  |some p=>
   obtain⟨n',s'⟩:=p
   rw[hn]at he
   obtain⟨rfl,hd⟩:=he
   have hF:cY rd false s.data.toList=some (decide (n'=1),s'):=by unfold cY;simp[hn]
   have HF:=Lib.hid hF
   have HD:=Lib.hid hd
   have cN:w5.cell? ⟨b2,0,none⟩=some (.int .i64 n'):=hd.blk.cell rfl
   have B5:ac w5 b cs t:=hd.turned.blk HB.out (by simp;omega)
   have hil:i<cs.length:=(List.getElem?_eq_some_iff.1 HI.out).1
   clear hd hn hF
   go_wp2_with (first
    |((with_reducible refine aj 4 (.tmp 13) (.tmp 12) b i (.bool (decide (n'=1))) _ _ B5 hil (by kernel_rfl) rfl ?hgd ?ho ?hx ?hy ?_);(case hgd|ho|hx|hy=>rfl);(intro w6 B6 o6))
    |fail)
   first|go_end0|((try simp only[Exit.inBlock,Exit.then]);refine bodyPost_ret (results_none rfl _ _ _) rfl ?_)
   obtain⟨p,tp,hp5⟩:=HD.out.part
   rw[HF.out]
   refine⟨rfl,⟨p,tp,o6.blk hp5 (fun e=>hne e.symm)⟩,B6, ?_⟩
   exact(HT.out.over HD.out.turned hl2.out).trans (o6.turned (by simp))
 |true=>
  go_enter Tryz.func299,Tryz.ntmps299
  go_wp2_with (first
   |((with_reducible refine aG 3 (.int .i64 0) (by intro w;kernel_rfl) rfl (some 4) ?hgd ?ho ?hd ?_);(case hgd|ho|hd=>rfl);(intro b2 w2 l2 B2 e2 z2);have BB2:=HBL.out.below e2 (Nat.lt_of_lt_of_le HBL.out.lt l2);have cc2:=BB2.cell HI.out;have PP2:=HP.out.below e2 (Nat.lt_of_lt_of_le HP.out.lt l2))
   |((with_reducible refine aj 3 (.tmp 4) (.const (.int .i64 0)) b2 0 (.int .i64 0) _ _ B2 (by simp) (by kernel_rfl) rfl ?hgd ?ho ?hx ?hy ?_);(case hgd|ho|hx|hy=>rfl);(intro w3 B3 o3);have BB3:=o3.blk BB2 (by have:=HBL.out.lt;omega);have cc3:=BB3.cell HI.out;have PP3:aI w3 q s rd br:=o3.blk PP2 (by have:=HP.out.lt;omega))
   |((with_reducible refine aj 3 (.tmp 4) (.const (.int .i64 1)) b2 0 (.int .i64 1) _ _ B3 (by simp) (by kernel_rfl) rfl ?hgd ?ho ?hx ?hy ?_);(case hgd|ho|hx|hy=>rfl);(intro w4 B4 o4);have BB4:=o4.blk BB3 (by have:=HBL.out.lt;omega);have PP4:aI w4 q s rd br:=o4.blk PP3 (by have:=HP.out.lt;omega))
   |fail)
  have T0:ab [q,b] w w4:=⟨by rw[o4.os,o3.os,e2.os],by rw[o4.tape,o3.tape,e2.tape],by rw[o4.output,o3.output,e2.output],by rw[o4.size,o3.size];exact e2.size,fun k hk hn=>by rw[o4.block k (by omega),o3.block k (by omega),e2.block k (by omega)]⟩
  have hbq:b2≠q:=by have:=HP.out.lt;omega
  have hbb:b≠b2:=by have:=HBL.out.lt;omega
  have HB:=Lib.hid BB4;have HPP:=Lib.hid PP4;have HT:=Lib.hid T0;have HN:=Lib.hid B4
  have hl2:=Lib.hid l2
  clear BB2 BB3 PP2 PP3 cc2 cc3 B2 B3 o3 e2 z2 l2 T0 BB4 PP4 B4 o4
  refine(bY q s rd br b2 0 1 1 [.int .i64 1] 3 _ HPP.out HN.out rfl hbq (by omega) (by omega) (fun _=>by decide) hs).mono ?_
  rintro e w5 he
  cases hn:bu rd 1 1 s.data.toList with
  |none=>
   rw[hn]at he
   obtain⟨rfl,hbad⟩:=he
   have hF:cY rd true s.data.toList=none:=by unfold cY;simp[hn]
   have HF:=Lib.hid hF
   have HBAD:=Lib.hid hbad
   clear hbad hn hF
   go_wp2_with fail
   refine⟨rfl, ?_⟩
   rw[HF.out]
   exact⟨rfl,⟨cs,rfl,HBAD.out.turned.blk HB.out (by simp;omega)⟩,HT.out.over HBAD.out.turned hl2.out⟩
  |some p=>
   obtain⟨n',s'⟩:=p
   rw[hn]at he
   obtain⟨rfl,hd⟩:=he
   have hF:cY rd true s.data.toList=some (decide (n'=1),s'):=by unfold cY;simp[hn]
   have HF:=Lib.hid hF
   have HD:=Lib.hid hd
   have cN:w5.cell? ⟨b2,0,none⟩=some (.int .i64 n'):=hd.blk.cell rfl
   have B5:ac w5 b cs t:=hd.turned.blk HB.out (by simp;omega)
   have hil:i<cs.length:=(List.getElem?_eq_some_iff.1 HI.out).1
   clear hd hn hF
   go_wp2_with (first
    |((with_reducible refine aj 4 (.tmp 13) (.tmp 12) b i (.bool (decide (n'=1))) _ _ B5 hil (by kernel_rfl) rfl ?hgd ?ho ?hx ?hy ?_);(case hgd|ho|hx|hy=>rfl);(intro w6 B6 o6))
    |fail)
   first|go_end0|((try simp only[Exit.inBlock,Exit.then]);refine bodyPost_ret (results_none rfl _ _ _) rfl ?_)
   obtain⟨p,tp,hp5⟩:=HD.out.part
   rw[HF.out]
   refine⟨rfl,⟨p,tp,o6.blk hp5 (fun e=>hne e.symm)⟩,B6, ?_⟩
   exact(HT.out.over HD.out.turned hl2.out).trans (o6.turned (by simp))
theorem gl:Tryz.prog.eqGuardType Tryz.prog.depth 63=false:=by kernel_rfl
theorem uV:Tryz.prog.eqGuardType Tryz.prog.depth 55=false:=by kernel_rfl
theorem eF {x:aN}:(Tryz.prog.info? 63).map (·.size)=some x.cells.length:=by kernel_rfl
theorem mw {e l:Int}:(Tryz.prog.info? 55).map (·.size)=some ([.int .i64 e, .int .i64 l]:List Value).length:=by kernel_rfl
theorem kU {x:ax}:(Tryz.prog.info? 61).map (·.size)=some x.cells.length:=by kernel_rfl
theorem kz (x y:aN) (w:World):(Op.equalIn 10000 63 (.agg x.cells.toArray) (.agg y.cells.toArray)).run Tryz.prog w= .ok (decide (x=y)) w:=by
 obtain⟨l,h⟩:=x
 obtain⟨l',h'⟩:=y
 have e:decide ((⟨l,h⟩:aN)=⟨l',h'⟩)=(l==l'&&(decide (h=h')&&true)):=by
  rw[Bool.eq_iff_iff]
  simp
 rw[e]
 refine iE (d:=9999) Tryz.underlying63 (by kernel_rfl) ?_
 refine eH (k:= .i64) (d:=9998) (by decide) (by kernel_rfl) (by kernel_rfl) Tryz.underlying3 ?_
 refine kj (d:=9998) (by decide) (by kernel_rfl) (by kernel_rfl) Tryz.underlying9 ?_
 exact ki
theorem EZ (e l e' l':Int) (w:World):(Op.equalIn 10000 55 (.agg #[.int .i64 e, .int .i64 l]) (.agg #[.int .i64 e', .int .i64 l'])).run Tryz.prog w= .ok (decide (e=e'∧l=l')) w:=by
 have q:decide (e=e'∧l=l')=(e==e'&&(l==l'&&true)):=by
  rw[Bool.eq_iff_iff]
  simp
 rw[q]
 refine iE (d:=9999) Tryz.underlying55 (by kernel_rfl) ?_
 refine eH (k:= .i64) (d:=9998) (by decide) (by kernel_rfl) (by kernel_rfl) Tryz.underlying3 ?_
 refine eH (k:= .i64) (d:=9998) (by decide) (by kernel_rfl) (by kernel_rfl) Tryz.underlying3 ?_
 exact ki
theorem Iw (x y:aH) (w:World):(Op.equalIn 10000 71 (.agg x.cells.toArray) (.agg y.cells.toArray)).run Tryz.prog w= .ok (decide (x=y)) w:=
 GB x.seq x.r.kind x.r.epoch x.r.time x.r.count x.r.target x.r.till x.r.root x.r.name x.was x.tag y.seq y.r.kind y.r.epoch y.r.time y.r.count y.r.target y.r.till y.r.root y.r.name y.was y.tag w
theorem Ix (x y:ax) (w:World):(Op.equalIn 10000 61 (.agg x.cells.toArray) (.agg y.cells.toArray)).run Tryz.prog w= .ok (decide (x=y)) w:=
 GA x.r.kind x.r.epoch x.r.time x.r.count x.r.target x.r.till x.r.root x.r.name x.tag y.r.kind y.r.epoch y.r.time y.r.count y.r.target y.r.till y.r.root y.r.name y.tag w
theorem np.len {w w':World} {q b n m:Nat} {t:TypeId} (h:np w w' q b n t) (e:n=m):np w w' q b m t:=e ▸ h
theorem yL (q:Nat) (s:ByteArray) (rd br:Bool) (b i:Nat) (e l:Int) (cs:List Value) (t:TypeId) (w:World) (hp:aI w q s rd br) (hb:ac w b cs t) (hi:cs[i]?=some (.int .i64 e)) (hj:cs[i+1]?=some (.int .i64 l)) (hne:b≠q)
  (hf:rd=false→dX e l=true) (hs:s.size≤1048500):
  Calls Tryz.prog 230 #[.pointer (some ⟨q,0,none⟩), .pointer (some ⟨b,i,none⟩)] w
   (iP w q b rd br cs.length t (ft rd e l s.data.toList) (fun p=>(cs.set i (.int .i64 p.1)).set (i+1) (.int .i64 p.2))):=by
 have hf1:rd=false→0≤e∧e.toNat<256^4:=fun h=>by have:=hf h;simp only[dX,bz,Bool.and_eq_true,decide_eq_true_eq]at this;omega
 have hf2:rd=false→0≤l∧l.toNat<256^2:=fun h=>by have:=hf h;simp only[dX,bz,Bool.and_eq_true,decide_eq_true_eq]at this;omega
 have HF1:=Lib.hid hf1;have HF2:=Lib.hid hf2
 have HP:=Lib.hid hp;have HBL:=Lib.hid hb;have HI:=Lib.hid hi;have HJ:=Lib.hid hj
 have hlen:s.data.toList.length=s.size:=rfl
 have HLEN:=Lib.hid hlen
 clear hp hb hi hj hf hf1 hf2 hlen
 go_enter Tryz.func230,Tryz.ntmps230
 go_wp2_with fail
 refine(bY q s rd br b i 4 e cs t _ HP.out HBL.out HI.out hne (by omega) (by omega) HF1.out (by omega)).mono ?_
 rintro e' w1 he
 cases h1:bu rd 4 e s.data.toList with
 |none=>
  rw[h1]at he
  obtain⟨rfl,hbad⟩:=he
  have HF:=Lib.hid (show ft rd e l s.data.toList=none by unfold ft;simp[h1])
  have HBAD:=Lib.hid hbad
  clear hbad h1
  go_wp2_with fail
  refine⟨rfl, ?_⟩
  rw[HF.out]
  exact⟨rfl,HBAD.out⟩
 |some p=>
  obtain⟨e1,s1⟩:=p
  rw[h1]at he
  obtain⟨rfl,hd⟩:=he
  obtain⟨p1,tp1,hp1⟩:=hd.part
  have hs1:p1.size≤1048576:=by rw[tp1.size];have:=cq h1;have:=HLEN.out;omega
  have hne2:(cs.set i (.int .i64 e1))[i+1]?=some (.int .i64 l):=by rw[List.getElem?_set_ne (by omega)];exact HJ.out
  have HD:=Lib.hid hd;have H1:=Lib.hid h1;have TP1:=Lib.hid tp1;have HP1:=Lib.hid hp1;have HJ1:=Lib.hid hne2
  clear hd h1 tp1 hp1 hne2
  go_wp2_with fail
  refine(bY q p1 rd br b (i+1) 2 l _ t _ HP1.out HD.out.blk HJ1.out hne (by omega) (by omega) HF2.out hs1).mono ?_
  rintro e' w2 he
  rw[show p1.data.toList=s1 from TP1.out]at he
  cases h2:bu rd 2 l s1 with
  |none=>
   rw[h2]at he
   obtain⟨rfl,hbad⟩:=he
   have HF:=Lib.hid (show ft rd e l s.data.toList=none by unfold ft;simp[H1.out,h2])
   have HBAD:=Lib.hid ((hbad.sofar HD.out.turned).len (m:=cs.length) (by simp))
   clear hbad h2
   go_wp2_with fail
   refine⟨rfl, ?_⟩
   rw[HF.out]
   exact⟨rfl,HBAD.out⟩
  |some p=>
   obtain⟨l1,s2⟩:=p
   rw[h2]at he
   obtain⟨rfl,hd2⟩:=he
   have HF:=Lib.hid (show ft rd e l s.data.toList=some ((e1,l1),s2) by unfold ft;simp[H1.out,h2])
   have HD2:=Lib.hid (hd2.sofar HD.out.turned)
   clear hd2 h2
   go_wp2_with fail
   first|go_end0|((try simp only[Exit.inBlock,Exit.then]);refine bodyPost_ret (results_none rfl _ _ _) rfl ?_)
   rw[HF.out]
   exact⟨rfl,HD2.out⟩
theorem uW (q:Nat) (s:ByteArray) (rd br:Bool) (b i:Nat) (x:aN) (cs:List Value) (t:TypeId) (w:World) (hp:aI w q s rd br) (hb:ac w b cs t) (hi:cs[i]?=some (.int .i64 x.lba)) (hj:cs[i+1]?=some (.string x.hash)) (hne:b≠q)
  (hf:rd=false→cI x=true) (hs:s.size≤1048500):
  Calls Tryz.prog 301 #[.pointer (some ⟨q,0,none⟩), .pointer (some ⟨b,i,none⟩)] w
   (iP w q b rd br cs.length t (cU rd x s.data.toList) (fun y=>(cs.set i (.int .i64 y.lba)).set (i+1) (.string y.hash))):=by
 have hf1:rd=false→x≠aN.zero→0≤x.lba∧x.lba.toNat<256^2:=fun h hz=>by
  have:=hf h
  simp only[cI,dp,Bool.or_eq_true,Bool.and_eq_true,decide_eq_true_eq]at this
  rcases this with h|h
  ·exact absurd h hz
  ·omega
 have hf2:rd=false→x.hash.size≤1048576:=fun h=>by
  have:=hf h
  simp only[cI,dp,Bool.or_eq_true,Bool.and_eq_true,decide_eq_true_eq]at this
  rcases this with h|h
  ·rw[h];decide
  ·omega
 have HF1:=Lib.hid hf1;have HF2:=Lib.hid hf2
 have hr:w.rangeAt b i x.cells:=by
  intro j u hu
  match j,hu with
  |0,hu=>simp only[aN.cells,List.getElem?_cons_zero,Option.some.injEq]at hu;subst hu;exact hb.cell hi
  |1,hu=>simp only[aN.cells,List.getElem?_cons_succ,List.getElem?_cons_zero,Option.some.injEq]at hu;subst hu;exact hb.cell hj
  |j+2,hu=>simp[aN.cells]at hu
 have HR:=Lib.hid hr
 have HP:=Lib.hid hp;have HBL:=Lib.hid hb;have HI:=Lib.hid hi;have HJ:=Lib.hid hj
 have hlen:s.data.toList.length=s.size:=rfl
 have HLEN:=Lib.hid hlen
 clear hp hb hi hj hf hf1 hf2 hlen hr
 obtain⟨z,hz⟩:∃z,z=decide (x=aN.zero):=⟨_,rfl⟩
 have HZ:=Lib.hid hz;clear hz
 have hnz:(!z)=decide (x≠aN.zero):=by rw[HZ.out];by_cases h:x=aN.zero<;>simp[h]
 have HNZ:=Lib.hid hnz;clear hnz
 go_enter Tryz.func301,Tryz.ntmps301
 go_wp2_with (first
  |((with_reducible refine ag 63 (.tmp 6) b i x.cells _ (some 7) HR.out Tryz.underlying63 rfl eF ?hg ?ho ?hds ?hx ?_);(case hg|ho|hds|hx=>rfl))
  |(((with_reducible refine gG 63 63 (.tmp 7) (.tmp 8) x.cells.toArray aN.zero.cells.toArray _ (some 9) gl (kz x aN.zero _) ?hgd ?ho ?hd ?hx ?hy ?_);(case hgd|ho|hd|hx|hy=>rfl));rw[←HZ.out])
  |((with_reducible refine aG 4 (.bool false) (by intro w;kernel_rfl) rfl (some 4) ?hgd ?ho ?hd ?_);(case hgd|ho|hd=>rfl);(intro b2 w2 l2 B2 e2 z2))
  |((with_reducible refine aj 4 (.tmp 4) (.tmp 9) b2 0 (.bool (!z)) _ _ B2 (by simp) (by kernel_rfl) rfl ?hgd ?ho ?hx ?hy ?_);(case hgd|ho|hx|hy=>rfl);(intro w3 B3 o3))
  |fail)
 have BB:=Lib.hid (o3.blk (HBL.out.below e2 (Nat.lt_of_lt_of_le HBL.out.lt l2)) (by have:=HBL.out.lt;omega))
 have PP:Hid (aI w3 q s rd br):=Lib.hid (o3.blk (HP.out.below e2 (Nat.lt_of_lt_of_le HP.out.lt l2)) (by have:=HP.out.lt;omega))
 have T0:Hid (ab [q,b] w w3):=Lib.hid ⟨by rw[o3.os,e2.os],by rw[o3.tape,e2.tape],by rw[o3.output,e2.output],by rw[o3.size];exact e2.size,fun k hk hn=>by rw[o3.block k (by omega),e2.block k (by omega)]⟩
 have hbq:b2≠q:=by have:=HP.out.lt;omega
 have hbb:b≠b2:=by have:=HBL.out.lt;omega
 have HN:=Lib.hid B3;have hl2:=Lib.hid l2
 clear B2 B3 o3 e2 z2 l2
 refine(pF q s rd br b2 0 (!z) _ 4 _ PP.out HN.out rfl hbq (by omega)).mono ?_
 rintro e' w4 he
 rw[HNZ.out]at he
 cases h1:cY rd (decide (x≠aN.zero)) s.data.toList with
 |none=>
  rw[h1]at he
  obtain⟨rfl,hbad⟩:=he
  have HF:=Lib.hid (show cU rd x s.data.toList=none by unfold cU;rw[h1])
  have HBAD:Hid (np w w4 q b cs.length t):=Lib.hid ⟨⟨cs,rfl,hbad.turned.blk BB.out (by simp;omega)⟩,T0.out.over hbad.turned hl2.out⟩
  clear hbad h1
  go_wp2_with fail
  refine⟨rfl, ?_⟩
  rw[HF.out]
  exact⟨rfl,HBAD.out⟩
 |some p=>
  obtain⟨g,s1⟩:=p
  rw[h1]at he
  obtain⟨rfl,hd⟩:=he
  obtain⟨p1,tp1,hp1⟩:=hd.part
  have hs1:p1.size≤1048501:=by rw[tp1.size];have:=iF h1;have:=HLEN.out;omega
  have cN:w4.cell? ⟨b2,0,none⟩=some (.bool g):=hd.blk.cell rfl
  have B4:=Lib.hid (hd.turned.blk BB.out (by simp;omega))
  have T4:=Lib.hid (T0.out.over hd.turned hl2.out)
  have H1:=Lib.hid h1;have TP1:=Lib.hid tp1;have HP1:=Lib.hid hp1
  clear hd h1 tp1 hp1
  cases g with
  |false=>
   have HF:=Lib.hid (show cU rd x s.data.toList=some (x,s1) by unfold cU;rw[H1.out])
   go_wp2_with fail
   first|go_end0|((try simp only[Exit.inBlock,Exit.then]);refine bodyPost_ret (results_none rfl _ _ _) rfl ?_)
   rw[HF.out]
   refine⟨rfl,⟨p1,TP1.out,HP1.out⟩, ?_,T4.out⟩
   show ac w4 b ((cs.set i (.int .i64 x.lba)).set (i+1) (.string x.hash)) t
   rw[set_self HI.out,set_self HJ.out]
   exact B4.out
  |true=>
   have hz0:rd=false→x≠aN.zero:=fun h=>by
    have h1:=H1.out
    rw[h,km]at h1
    simp only[Option.some.injEq,Prod.mk.injEq,decide_eq_true_eq]at h1
    exact h1.1
   have HF1':=Lib.hid (fun h=>HF1.out h (hz0 h))
   clear hz0
   go_wp2_with fail
   refine(bY q p1 rd br b i 2 x.lba cs t _ HP1.out B4.out HI.out hne (by omega) (by omega) HF1'.out (by omega)).mono ?_
   rintro e' w5 he
   rw[show p1.data.toList=s1 from TP1.out]at he
   cases h2:bu rd 2 x.lba s1 with
   |none=>
    rw[h2]at he
    obtain⟨rfl,hbad⟩:=he
    have HF:=Lib.hid (show cU rd x s.data.toList=none by unfold cU;simp only[H1.out,h2])
    have HBAD:=Lib.hid (hbad.sofar T4.out)
    clear hbad h2
    go_wp2_with fail
    refine⟨rfl, ?_⟩
    rw[HF.out]
    exact⟨rfl,HBAD.out⟩
   |some p=>
    obtain⟨l1,s2⟩:=p
    rw[h2]at he
    obtain⟨rfl,hd⟩:=he
    obtain⟨p2,tp2,hp2⟩:=hd.part
    have hs2:p2.size≤1048576:=by rw[tp2.size];have:=cq h2;have h3:=(show ak p1 s1 from TP1.out).size;omega
    have hne2:(cs.set i (.int .i64 l1))[i+1]?=some (.string x.hash):=by rw[List.getElem?_set_ne (by omega)];exact HJ.out
    have HD:=Lib.hid (hd.sofar T4.out);have H2:=Lib.hid h2;have TP2:=Lib.hid tp2;have HP2:=Lib.hid hp2;have HJ1:=Lib.hid hne2
    clear hd h2 tp2 hp2 hne2
    go_wp2_with fail
    refine(dJ q p2 rd br b (i+1) x.hash _ t _ HP2.out HD.out.blk HJ1.out hne hs2 HF2.out).mono ?_
    rintro e' w6 he
    rw[show p2.data.toList=s2 from TP2.out]at he
    cases h3:cp rd x.hash s2 with
    |none=>
     rw[h3]at he
     obtain⟨rfl,hbad⟩:=he
     have HF:=Lib.hid (show cU rd x s.data.toList=none by unfold cU;simp only[H1.out,H2.out,h3])
     have HBAD:=Lib.hid ((hbad.sofar HD.out.turned).len (m:=cs.length) (by simp))
     clear hbad h3
     go_wp2_with fail
     refine⟨rfl, ?_⟩
     rw[HF.out]
     exact⟨rfl,HBAD.out⟩
    |some p=>
     obtain⟨y,s3⟩:=p
     rw[h3]at he
     obtain⟨rfl,hd2⟩:=he
     have HF:=Lib.hid (show cU rd x s.data.toList=some (⟨l1,y⟩,s3) by unfold cU;simp only[H1.out,H2.out,h3])
     have HD2:=Lib.hid (hd2.sofar HD.out.turned)
     clear hd2 h3
     go_wp2_with fail
     first|go_end0|((try simp only[Exit.inBlock,Exit.then]);refine bodyPost_ret (results_none rfl _ _ _) rfl ?_)
     rw[HF.out]
     exact⟨rfl,HD2.out⟩
theorem uX:∀(fn:Fn) (first cap:Array Value) (w:World),(Instr.makeFunc fn first cap).run Tryz.prog w= .ok (.func fn first cap) w:=fun _ _ _ _=>rfl
theorem zF (s:ByteArray) (vb b i:Nat) (cs:List Value) (t:TypeId) (w:World) (hv:ac w vb [.pointer (some ⟨b,i,none⟩)] 294) (hb:ac w b cs t) (hi:i<cs.length) (hne:b≠vb) (hs:s.size≤1048576):
  Calls Tryz.prog 351 #[.string s, .pointer (some ⟨vb,0,none⟩)] w fun e w'=>
   ∃x left f,e= .returned (.tuple #[.string left, .int .i64 f])∧ac w' b (cs.set i (.string x)) t∧ab [b] w w'∧((f=0∧dN s.data.toList=some (x.data.toList,left.data.toList))∨(f=3∧dN s.data.toList=none)):=by
 have HV:=Lib.hid hv;have HBL:=Lib.hid hb
 clear hv hb
 go_enter Tryz.func351,Tryz.ntmps351
 go_wp2_with fail
 refine(nO s _).mono ?_
 rintro e w1 ⟨he,hb1⟩
 obtain⟨x,y,f,rfl,hx⟩:∃x y f,e= .returned (.tuple #[.string x, .string y, .int .i64 f])∧((f=0∧dN s.data.toList=some (x.data.toList,y.data.toList))∨(f=3∧dN s.data.toList=none∧x=⟨#[]⟩)):=by
  rcases he with⟨a,b,x,y,h1,h2,h3,h4⟩|⟨h1,h2⟩
  ·exact⟨x,y,0,h2, .inl ⟨rfl,by rw[h1,show x.data.toList= _ from h3,show y.data.toList= _ from h4]⟩⟩
  ·exact⟨_,_,3,h2, .inr ⟨rfl,h1,rfl⟩⟩
 have hxs:x.size≤1048576:=by
  rcases hx with⟨_,h⟩|⟨_,_,h⟩
  ·have:=(mK h).1
   have e1:x.data.toList.length=x.size:=rfl
   have e2:s.data.toList.length=s.size:=rfl
   omega
  ·rw[h];decide
 have HX:=Lib.hid hx
 have V1:=Lib.hid (HV.out.below hb1 HV.out.lt)
 have B1:=Lib.hid (HBL.out.below hb1 HBL.out.lt)
 have T1:Hid (ab [b] w w1):=Lib.hid (ab.of_below hb1 (Nat.le_refl _))
 clear he hx hb1 HV HBL
 have v0:=V1.out.cell (i:=0) rfl
 have f0:=B1.out.free i
 obtain⟨u,hu⟩:∃u,w1.cell? ⟨b,i,none⟩=some u:=⟨_,B1.out.cell (List.getElem?_eq_getElem hi)⟩
 go_wp2_with fail
 have VD:=V1.out.drew
 have BD:=B1.out.drew
 have TD:=T1.out.drew
 go_region_with ((go_at_call 352;refine(qf x _ (by omega)).mono ?_;rintro e wA ⟨rfl,hbA⟩;have vA:=(VD.below hbA V1.out.lt).cell (i:=0) rfl;have BA:=BD.below hbA B1.out.lt;have fA:=BA.free i;have uA:=BA.cell (List.getElem?_eq_getElem hi);have TA:=TD.trans (ab.of_below hbA (Nat.le_refl _))))
 all_goals go_wp2_with fail
 all_goals go_ret2
 all_goals refine⟨x,_,f,rfl,BA.set i _,TA.setCell (.inl (by simp)) i _, ?_⟩
 all_goals exact HX.out.imp id (fun h=>⟨h.1,h.2.1⟩)
theorem sW (q:Nat) (s:ByteArray) (br:Bool) (vb b i:Nat) (cs:List Value) (t:TypeId) (w:World) (hp:aI w q s true br) (hv:ac w vb [.pointer (some ⟨b,i,none⟩)] 294) (hb:ac w b cs t) (hi:i<cs.length) (hne:b≠vb) (hbq:b≠q) (hs:s.size≤1048576):
  Calls Tryz.prog 296 #[.pointer (some ⟨q,0,none⟩), .func (.func 351) #[] #[.pointer (some ⟨vb,0,none⟩)]] w
   (iP w q b true br cs.length t (textF true ⟨#[]⟩ s.data.toList) (fun y=>cs.set i (.string y))):=by
 have c0:=hp.c0
 have HP:=Lib.hid hp
 clear hp
 go_enter Tryz.func296,Tryz.ntmps296
 go_wp2_with fail
 refine(zF s vb b i cs t _ hv hb hi hne hs).mono ?_
 rintro e w1 ⟨x,left,f,rfl,B1,T1,hf⟩
 have P1:=HP.out.turned T1 (by simp;exact fun e=>hbq e.symm)
 have HB:=Lib.hid B1;have HT:=Lib.hid T1;have HPP:=Lib.hid P1
 clear B1 T1 P1 c0 hv hb
 have p0:=HPP.out.c0
 have pf:=ac.free HPP.out 0
 rcases hf with⟨rfl,hc⟩|⟨rfl,hc⟩
 ·have HC:=Lib.hid (show textF true ⟨#[]⟩ s.data.toList=some (x,left.data.toList) by unfold textF;rw[if_pos rfl,hc])
  clear hc
  go_wp2_with fail
  first|go_end0|((try simp only[Exit.inBlock,Exit.then]);refine bodyPost_ret (results_none rfl _ _ _) rfl ?_)
  rw[HC.out]
  exact⟨rfl,⟨left,ak.self left,HPP.out.set left⟩,HB.out.set_other hbq _,(HT.out.mono (by simp)).setCell (.inl (by simp)) 0 _⟩
 ·have HC:=Lib.hid (show textF true ⟨#[]⟩ s.data.toList=none by unfold textF;rw[if_pos rfl,hc])
  clear hc
  go_wp2_with fail
  refine⟨rfl, ?_⟩
  rw[HC.out]
  exact⟨rfl,⟨_,by simp,HB.out⟩,HT.out.mono (by simp)⟩
theorem D9 (q:Nat) (s:ByteArray) (rd br:Bool) (b i:Nat) (x:ByteArray) (cs:List Value) (t:TypeId) (w:World) (hp:aI w q s rd br) (hb:ac w b cs t) (hi:cs[i]?=some (.string x)) (hne:b≠q)
  (hs:s.size≤1048576) (hx:rd=false→x.size≤1048576):
  Calls Tryz.prog 300 #[.pointer (some ⟨q,0,none⟩), .pointer (some ⟨b,i,none⟩)] w
   (iP w q b rd br cs.length t (textF rd x s.data.toList) (fun y=>cs.set i (.string y))):=by
 have HP:=Lib.hid hp;have HBL:=Lib.hid hb;have HI:=Lib.hid hi
 have hmf:=uX
 clear hp hb hi
 cases rd with
 |true=>
  go_enter Tryz.func300,Tryz.ntmps300
  go_wp2_with (first
   |((with_reducible refine aw 294 (.tmp 1) (.pointer (some ⟨b,i,none⟩)) rfl (some 3) ?hgd ?ho ?hd ?hx ?_);(case hgd|ho|hd|hx=>rfl);(intro b3 w3 l3 B3 e3 z3);have PP3:=HP.out.below e3 (Nat.lt_of_lt_of_le HP.out.lt l3);have q3:=PP3.c1)
   |fail)
  have BB3:=HBL.out.below e3 (Nat.lt_of_lt_of_le HBL.out.lt l3)
  have HPP:=Lib.hid PP3;have HB3:=Lib.hid BB3;have HV:=Lib.hid B3
  have T3:Hid (ab [q,b] w w3):=Lib.hid (ab.of_below e3 l3)
  have hb3:b≠b3:=by have:=HBL.out.lt;omega
  have hil:i<cs.length:=(List.getElem?_eq_some_iff.1 HI.out).1
  clear PP3 BB3 B3 e3 z3 q3
  refine(sW q s br b3 b i cs t _ HPP.out HV.out HB3.out hil hb3 hne hs).mono ?_
  rintro e w4 he
  have hx2:textF true x s.data.toList=textF true ⟨#[]⟩ s.data.toList:=rfl
  have HX2:=Lib.hid hx2
  clear hx2
  cases h1:textF true ⟨#[]⟩ s.data.toList with
  |none=>
   rw[h1]at he
   obtain⟨rfl,hbad⟩:=he
   have H1:=Lib.hid h1
   have HBAD:=Lib.hid (hbad.sofar T3.out)
   clear h1 hbad
   go_wp2_with fail
   refine⟨rfl, ?_⟩
   rw[HX2.out,H1.out]
   exact⟨rfl,HBAD.out⟩
  |some p=>
   obtain⟨y,s'⟩:=p
   rw[h1]at he
   obtain⟨rfl,hd⟩:=he
   have H1:=Lib.hid h1
   have HD:=Lib.hid (hd.sofar T3.out)
   clear h1 hd
   go_wp2_with fail
   first|go_end0|((try simp only[Exit.inBlock,Exit.then]);refine bodyPost_ret (results_none rfl _ _ _) rfl ?_)
   rw[HX2.out,H1.out]
   exact⟨rfl,HD.out⟩
 |false=>
  have hx':x.size≤1048576:=hx rfl
  clear hx
  go_enter Tryz.func300,Tryz.ntmps300
  go_wp2_with (first
   |((with_reducible refine aw 294 (.tmp 1) (.pointer (some ⟨b,i,none⟩)) rfl (some 3) ?hgd ?ho ?hd ?hx ?_);(case hgd|ho|hd|hx=>rfl);(intro b3 w3 l3 B3 e3 z3);have PP3:=HP.out.below e3 (Nat.lt_of_lt_of_le HP.out.lt l3);have q3:=PP3.c1)
   |fail)
  have BB3:=HBL.out.below e3 (Nat.lt_of_lt_of_le HBL.out.lt l3)
  have c0:=PP3.c0
  have f0:=ac.free PP3 0
  have v0:=B3.cell (i:=0) rfl
  have x0:=BB3.cell HI.out
  have HPP:=Lib.hid PP3;have HB3:=Lib.hid BB3;have HV:=Lib.hid B3
  have T3:Hid (ab [q,b] w w3):=Lib.hid (ab.of_below e3 l3)
  have hb3:b≠b3:=by have:=HBL.out.lt;omega
  have hq3:q≠b3:=by have:=HP.out.lt;omega
  clear PP3 BB3 B3 e3 z3 q3
  have HPD:aI w3.drew q s false br:=ac.drew HPP.out
  have HVD:=HV.out.drew
  have HBD:=HB3.out.drew
  have TD:=T3.out.drew
  go_region_with ((go_at_call 182;refine(fa x _ (by omega)).mono ?_;rintro e wA ⟨r,rfl,tr,hbA⟩;have hr:r.size≤1048580:=(by rw[tr.size,bQ];have e1:x.data.toList.length=x.size:=rfl;omega);have PA:=HPD.below hbA HPP.out.lt;have cA:=PA.c0;have fA:=ac.free PA 0;have vA:=(HVD.below hbA HV.out.lt).cell (i:=0) rfl;have BA:=HBD.below hbA HB3.out.lt;have xA:=BA.cell HI.out;have TA:=TD.trans (ab.of_below hbA (Nat.le_refl _))))
  all_goals go_wp2_with fail
  all_goals(first|go_end0|((try simp only[Exit.inBlock,Exit.then]);refine bodyPost_ret (results_none rfl _ _ _) rfl ?_))
  all_goals refine⟨rfl,⟨_,(show ak (s++r) _ from tr.extend),PA.set _⟩, ?_,TA.setCell (.inl (by simp)) 0 _⟩
  all_goals(show ac _ b (cs.set i (.string x)) t;rw[set_self HI.out];exact BA.set_other hne _)
end Go.Proofs.YtngiibgdgenidaaGreat
