/- Walks of the documents' Texts (chapter 1) and Same (chapter 16). Walk of the documents' Same of two proofs (chapter 16). Messages in plain words: which may be, as the document says it; reading leads back; unlike ones are said unlike (chapter 27). No program in sight. -/
import Derived.Test.YtngiibgdgenidaaGreatQ24
import Derived.Deep.QuietTactic
import Derived.Test.YtngiibgdgenidaaGreatQ23
import Derived.Test.YtngiibgdgenidaaGreatQ14
import Derived.BigQuiet
import Derived.Test.YtngiibgdgenidaaGreatQ6
import Derived.Test.YtngiibgdgenidaaGreatQ20
import Derived.Deep.RegionHeld3
import Derived.Deep.MidRow
import Derived.Test.YtngiibgdgenidaaGreatQ4
set_option linter.unusedSimpArgs false
set_option linter.unusedVariables false
set_option maxRecDepth 100000
set_option maxHeartbeats 4000000
namespace Go.Proofs.YtngiibgdgenidaaGreat
open Go Go.RowKit
structure Long (n:Nat):Prop where
 le:n≤9223372036854775807
theorem Long.of {n k:Nat} (h:n≤k) (hk:k≤9223372036854775807):Long n:=⟨Nat.le_trans h hk⟩
theorem aX.at {w:World} {p:Option Addr} {n c:Nat} {xs:List ByteArray} (h:aX w (.slice p n c) xs) (hn:n=xs.length) {k:Nat} {x:ByteArray} (hx:xs[k]?=some x):∃g o,p=some ⟨g,o,none⟩∧w.cell? ⟨g,o+k,none⟩=some (.string x):=by
 rcases h with⟨h1,_⟩|⟨g,o,c',h1,_,_,h2⟩
 ·subst h1;simp at hx
 ·injection h1 with h1 _ _
  exact⟨g,o,h1,h2 k x hx⟩
def qo (t:ar):ar:=if t.gone then⟨t.askE,t.askL,true,false,0,aN.zero,aN.zero,[],[],0,⟨#[]⟩⟩else t
def fk (m:aa):aa:=
 ⟨m.kind,if m.kind=2∨m.kind=3∨m.kind=4 then m.epoch else 0,if 4≤m.kind∧m.kind≤6 then m.seq else 0,if m.kind≠10 then m.nonce else⟨#[]⟩,
  if m.kind=3∨m.kind=4 then m.tag else⟨#[]⟩,if m.kind=4 then m.last else⟨#[]⟩,if m.kind=7 then m.askE else 0,if m.kind=7 then m.askL else 0,
  if m.kind=6 then m.sld else ax.zero,if m.kind=8 then qo m.told else ar.zero,if m.kind=10 then m.rcp else aH.zero⟩
def ko (t:ar):Bool:=dX t.askE t.askL&&bz t.slot&&decide ((t.cipher.size:Int)≤4000)&&(decide (0≤t.at_)&&decide (t.at_≤4096))&&cI t.here&&cI t.ahead&&(decide (t.up.length≤12)&&decide (t.left.length≤12)&&dl t.up&&dl t.left)
def fy (m:aa):Bool:=
 if m.kind=1 then true
 else if m.kind=2 then bz m.epoch
 else if m.kind=3 then bz m.epoch&&decide (m.tag.size=32)
 else if m.kind=4 then bz m.epoch&&decide (m.tag.size=32)&&decide (m.last.size=32)&&(decide (0≤m.seq)&&decide (m.seq≤4096))
 else if m.kind=5 then decide (0≤m.seq)&&decide (m.seq≤4095)
 else if m.kind=6 then(decide (0≤m.seq)&&decide (m.seq≤4095))&&aE m.sld.r&&decide (m.sld.tag.size=32)
 else if m.kind=7 then dX m.askE m.askL
 else if m.kind=8 then ko m.told
 else if m.kind=10 then bX m.rcp
 else false
def fY (m:aa):Bool:=decide (m=fk m)&&(decide (m.kind=10)||decide (m.nonce.size=32))&&fy m
theorem rf (t:ar):dd t=true↔(t=qo t∧ko t=true):=by
 obtain⟨e,l,g,f,a,h,ah,u,le,s,c⟩:=t
 cases g with
 |false=>simp[dd,qo,ko]
 |true=>
  simp only[dd,qo,ko,mn,if_true,Bool.and_eq_true,Bool.not_eq_true',decide_eq_true_eq,ar.mk.injEq]
  constructor
  ·rintro⟨h1,⟨⟨⟨⟨⟨⟨h2,h3⟩,h4⟩,h5⟩,h6⟩,h7⟩,h8⟩⟩
   have hu:u=[]:=List.length_eq_zero_iff.1 (by omega)
   have hl:le=[]:=List.length_eq_zero_iff.1 (by omega)
   subst h2 h3 h4 h5 h6 h7 hu hl
   refine⟨by simp, ?_⟩
   refine⟨⟨⟨⟨⟨⟨h1,by decide⟩,by decide⟩,by decide⟩,by decide⟩,by decide⟩,by decide⟩
  ·rintro⟨⟨_,_,_,h4,h5,h6,h7,h8,h9,h2,h3⟩,h⟩
   subst h2 h3 h4 h5 h6 h7 h8 h9
   exact⟨h.1.1.1.1.1.1,by decide⟩
theorem zM (m:aa):fY m=true↔aM m=true:=by
 obtain⟨kind,epoch,seq,nonce,tag,last,askE,askL,sld,told,rcp⟩:=m
 have ht:=rf told
 by_cases k1:kind=1
 ·subst k1;simp[fY,aM,fk,fy,aF,aJ,dF,al];grind
 by_cases k2:kind=2
 ·subst k2;simp[fY,aM,fk,fy,aF,aJ,dF,al];grind
 by_cases k3:kind=3
 ·subst k3;simp[fY,aM,fk,fy,aF,aJ,dF,al];grind
 by_cases k4:kind=4
 ·subst k4;simp[fY,aM,fk,fy,aF,aJ,dF,al];grind
 by_cases k5:kind=5
 ·subst k5;simp[fY,aM,fk,fy,aF,aJ,dF,al];grind
 by_cases k6:kind=6
 ·subst k6;simp[fY,aM,fk,fy,aF,aJ,dF,al];grind
 by_cases k7:kind=7
 ·subst k7;simp[fY,aM,fk,fy,aF,aJ,dF,al];grind
 by_cases k8:kind=8
 ·subst k8;simp[fY,aM,fk,fy,aF,aJ,dF,al,ht];grind
 by_cases k10:kind=10
 ·subst k10;simp[fY,aM,fk,fy,aF,aJ,dF,al];grind
 simp[fY,aM,fy,aF,k1,k2,k3,k4,k5,k6,k7,k8,k10]
theorem zN {m:aa} (h:aM m=true):m=fk m:=by
 rw[←zM]at h
 simp only[fY,Bool.and_eq_true,decide_eq_true_eq]at h
 exact h.1.1
theorem eQ {k:Nat} {n x:Int} (h0:0≤n) (h:n.toNat<256^k) (s:List UInt8):bu true k x (beBytes k n.toNat++s)=some (n,s):=by
 have e1:(beBytes k n.toNat++s).take k=beBytes k n.toNat:=by rw[List.take_append_of_le_length (by rw[beBytes_length];omega),List.take_of_length_le (by rw[beBytes_length];omega)]
 have e2:(beBytes k n.toNat++s).drop k=s:=by
  rw[List.drop_append_of_le_length (by rw[beBytes_length];omega),List.drop_of_length_le (by rw[beBytes_length];omega),List.nil_append]
 unfold bu
 rw[if_pos rfl,if_neg (by rw[List.length_append,beBytes_length];omega),e1,e2,ei k _ h]
 congr 2
 omega
theorem Ei (x:ByteArray):(⟨x.data.toList.toArray⟩:ByteArray)=x:=by cases x;rfl
theorem lX {x y:ByteArray} (h:x.size=32) (s:List UInt8):cp true y (x.data.toList++s)=some (x,s):=by
 have hl:x.data.toList.length=32:=h
 unfold cp
 rw[if_pos rfl,if_neg (by rw[List.length_append];omega),List.take_append_of_le_length (by omega),List.take_of_length_le (by omega),List.drop_append_of_le_length (by omega),List.drop_of_length_le (by omega),List.nil_append,Ei]
theorem oa (b c:Bool) (s:List UInt8):cY true c (jQ b++s)=some (b,s):=by
 unfold cY jQ
 cases b
 ·have:=eQ (k:=1) (n:=0) (x:=if c then 1 else 0) (by omega) (by decide) s
  simp only[Bool.false_eq_true,if_false]at this ⊢
  rw[show(0:Int).toNat=0 from rfl]at this
  rw[this];rfl
 ·have:=eQ (k:=1) (n:=1) (x:=if c then 1 else 0) (by omega) (by decide) s
  simp only[if_true]at this ⊢
  rw[show(1:Int).toNat=1 from rfl]at this
  rw[this];rfl
theorem xw {e l:Int} (h:dX e l=true):0≤e∧e≤4294967295∧0≤l∧l≤4095:=by
 simp only[dX,bz,Bool.and_eq_true,decide_eq_true_eq]at h;omega
theorem BR {e l x y:Int} (h:dX e l=true) (s:List UInt8):ft true x y (js e l++s)=some ((e,l),s):=by
 have hf:=xw h
 unfold ft js
 rw[List.append_assoc,eQ (by omega) (by omega)]
 simp only
 rw[eQ (by omega) (by omega)]
theorem yN {x:aN} (h:cI x=true) (s:List UInt8):cU true aN.zero (kN x++s)=some (x,s):=by
 unfold cU kN
 by_cases hz:x=aN.zero
 ·rw[if_pos hz,oa,hz]
 ·rw[if_neg hz,List.append_assoc,List.append_assoc,oa]
  simp only[cI,hz,dp,decide_false,Bool.false_or,Bool.and_eq_true,decide_eq_true_eq]at h
  simp only
  rw[eQ (by omega) (by omega)]
  simp only
  rw[lX (by omega)]
theorem sd {xs:List ByteArray} (h:dl xs=true):∀x∈xs,x.size=32:=by
 intro x hx
 have:=List.all_eq_true.1 h x hx
 simpa using this
theorem FY {xs ys:List ByteArray} (h:dl xs=true) (s:List UInt8):∀k,k≤xs.length→dS true ys ((xs.map (·.data.toList)).flatten++s) k=some (xs.take k,((xs.drop k).map (·.data.toList)).flatten++s):=by
 intro k
 induction k with
 |zero=>intro _;simp[dS]
 |succ k ih=>
  intro hk
  have e:xs.drop k=xs[k]'(by omega)::xs.drop (k+1):=List.drop_eq_getElem_cons (by omega)
  simp only[dS,ih (by omega)]
  rw[e]
  simp only[List.map_cons,List.flatten_cons,List.append_assoc]
  rw[lX (sd h _ (List.getElem_mem _))]
  simp only
  rw[List.take_succ_eq_append_getElem (by omega)]
theorem yO {xs:List ByteArray} (h:dl xs=true) (hl:xs.length≤12) (s:List UInt8):dY true [] (jR xs++s)=some (xs,s):=by
 unfold dY jR
 have:=eQ (k:=1) (n:=(xs.length:Int)) (x:=0) (by omega) (by omega) ((xs.map (·.data.toList)).flatten++s)
 rw[show((xs.length:Int)).toNat=xs.length by omega]at this
 rw[List.append_assoc,show(([]:List ByteArray).length:Int)=0 from rfl,this]
 simp only[if_true]
 rw[show((xs.length:Int)).toNat=xs.length by omega,FY h s _ (Nat.le_refl _)]
 simp
theorem FZ {x y:ByteArray} (h:x.size<4294967296) (s:List UInt8):textF true y (bT x.data.toList++s)=some (x,s):=by
 unfold textF
 rw[if_pos rfl,nM (show x.data.toList.length<_ from h)]
theorem ii {e:Int} (h:bz e=true):0≤e∧e≤4294967295:=by
 simp only[bz,Bool.and_eq_true,decide_eq_true_eq]at h;omega
theorem F2 {t:ar} (h:dd t=true) (s:List UInt8):di true ar.zero (jS t++s)=some (t,s):=by
 obtain⟨hb,hr⟩:=(rf t).1 h
 obtain⟨e,l,g,f,a,h1,ah,u,le,sl,ci⟩:=t
 simp only[ko,Bool.and_eq_true,decide_eq_true_eq]at hr
 obtain⟨⟨⟨⟨⟨⟨g1,g2⟩,g3⟩,g4⟩,g5⟩,g6⟩,⟨⟨g7,g8⟩,g9⟩,g10⟩:=hr
 have g2:=ii g2
 unfold di jS
 simp only[List.append_assoc]
 rw[BR g1]
 simp only
 rw[oa]
 cases g with
 |true=>
  simp only[qo,if_true,ar.mk.injEq]at hb
  obtain⟨_,_,_,b4,b5,b6,b7,b8,b9,b2,b3⟩:=hb
  subst b2 b3 b4 b5 b6 b7 b8 b9
  rfl
 |false=>
  simp only[Bool.false_eq_true,if_false,List.append_assoc]
  unfold eP
  rw[eQ (by omega) (by omega)]
  simp only
  rw[FZ (by omega)]
  simp only
  rw[oa]
  simp only
  rw[eQ (by omega) (by omega)]
  simp only[ar.zero]
  rw[yN g5]
  simp only
  rw[yN g6]
  simp only
  rw[yO g9 g7]
  simp only
  rw[yO g10 g8]
def gJ (s:List UInt8):Option (aa×List UInt8):=
 match bu true 1 0 s with
 |none=>none
 |some (k,s1)=>av true false {aa.zero with kind:=k} s1
theorem F3 {m:aa} (h:aM m=true) (s:List UInt8):bi true {aa.zero with kind:=m.kind,nonce:=m.nonce} (dQ m++s)=some ({m with tag:=⟨#[]⟩},s):=by
 have hb:=zN h
 have hs:=(cS h).says
 clear h
 obtain⟨kind,epoch,seq,nonce,tag,last,askE,askL,⟨sr,stg⟩,told,rcp⟩:=m
 simp only[fk,aa.mk.injEq]at hb
 obtain⟨_,b1,b2,b3,b4,b5,b6,b7,b8,b9,b10⟩:=hb
 by_cases k1:kind=1
 ·subst k1
  simp at b1 b2 b3 b4 b5 b6 b7 b8 b9 b10
  simp[bi,dQ,aa.zero]
  simp_all
 by_cases k2:kind=2
 ·subst k2
  simp[aF]at hs
  have hs:=ii hs
  simp[bi,dQ,aa.zero,eQ (k:=4) (n:=epoch) hs.1 (by omega)]
  simp_all
 by_cases k3:kind=3
 ·subst k3
  simp[aF]at hs
  have hs:=ii hs
  simp[bi,dQ,aa.zero,eQ (k:=4) (n:=epoch) hs.1 (by omega)]
  simp_all
 by_cases k4:kind=4
 ·subst k4
  simp[aF]at hs
  obtain⟨⟨g1,g2,g3⟩,g4⟩:=hs
  have g1:=ii g1
  simp[bi,dQ,aa.zero,eQ (k:=4) (n:=epoch) g1.1 (by omega),eQ (k:=4) (n:=seq) g2 (by omega),lX g4]
  simp_all
 by_cases k5:kind=5
 ·subst k5
  simp[aF]at hs
  simp[bi,dQ,aa.zero,eQ (k:=4) (n:=seq) hs.1 (by omega)]
  simp_all
 by_cases k6:kind=6
 ·subst k6
  simp[aF]at hs
  obtain⟨⟨⟨g1,g2⟩,g3⟩,g4⟩:=hs
  simp[bi,dQ,aa.zero,eQ (k:=4) (n:=seq) g1 (by omega),lB,oJ g3,lX g4]
  simp_all
 by_cases k7:kind=7
 ·subst k7
  simp[aF]at hs
  simp[bi,dQ,aa.zero,BR hs]
  simp_all
 by_cases k8:kind=8
 ·subst k8
  simp[aF]at hs
  clear b9
  simp[bi,dQ,aa.zero,F2 hs]
  simp_all
 by_cases k10:kind=10
 ·subst k10
  simp[aF]at hs
  simp at b1 b2 b3 b4 b5 b6 b7 b8 b9 b10
  unfold bi dQ
  simp only[if_true,if_false,show¬((10:Int)=2∨(10:Int)=3) by omega,show¬(10:Int)=4 by omega,show¬(10:Int)=5 by omega,show¬(10:Int)=6 by omega,show¬(10:Int)=7 by omega,show¬(10:Int)=8 by omega,lC,wT hs]
  simp only[aa.zero,b1,b2,b3,b4,b5,b6,b7,b8,b9]
 exfalso
 simp[aF,k1,k2,k3,k4,k5,k6,k7,k8,k10]at hs
theorem xx {m:aa} (h:aM m=true):(m.kind=10∨m.nonce.size=32)∧(al m.kind=true→m.tag.size=32):=by
 simp only[aM,Bool.and_eq_true,Bool.or_eq_true,decide_eq_true_eq,Bool.not_eq_true']at h
 refine⟨h.1.2.1,fun ht=> ?_⟩
 rcases h.1.2.2 with h2|h2
 ·rw[ht]at h2;cases h2
 ·exact h2
theorem BS {m:aa} (h:aM m=true):gJ (dj m)=some (m,[]):=by
 have hk:=oQ (cS h).says
 have hz:=xx h
 have hr:=F3 h
 have e:dj m=beBytes 1 m.kind.toNat++(m.nonce.data.toList++(dQ m++(m.tag.data.toList++[]))):=by
  unfold dj eU;simp[List.append_assoc]
 unfold gJ
 rw[e,eQ (by omega) (by omega)]
 simp only
 unfold av
 have e1:bj true {aa.zero with kind:=m.kind} (m.nonce.data.toList++(dQ m++(m.tag.data.toList++[])))=some ({aa.zero with kind:=m.kind,nonce:=m.nonce},dQ m++(m.tag.data.toList++[])):=by
  unfold bj
  split
  ·next h10=>
   have:=(cS h).nonce10 h10
   rw[this];rfl
  ·next h10=>
   rw[lX (hz.1.resolve_left h10)]
 rw[e1]
 simp only
 rw[hr]
 simp only
 unfold cB
 cases ht:al m.kind with
 |true=>
  simp only[ht,Bool.not_false,Bool.and_self,if_true]
  rw[lX (hz.2 ht)]
 |false=>
  have h0:=(cS h).tag0 ht
  simp only[ht,Bool.false_and,Bool.false_eq_true,if_false]
  rw[h0]
  congr 2
  rw[←h0]
open Go.ChangeShapes Go.WideShapes Go.Deep
structure F4 (w:World) (m:aa) (u l:Value):Prop where
 kind:Fits m.kind
 epoch:Fits m.epoch
 seq:Fits m.seq
 nonce:Long m.nonce.size
 tag:Long m.tag.size
 last:Long m.last.size
 sld:qS m.sld.r
 rcp:Fj m.rcp
 at_:Fits m.told.at_
 slot:Fits m.told.slot
 up:aX w u m.told.up
 left:aX w l m.told.left
 upl:Long m.told.up.length
 leftl:Long m.told.left.length
section
variable {H:Type} {enc:TypeId×Value→H} {w:World} {base:Nat} {spare:Nat→Bool} {held:Bool}
structure IP (w:World) (t:ar) (u l:Value):Prop where
 at_:Fits t.at_
 up:aX w u t.up
 left:aX w l t.left
 upl:Long t.up.length
 leftl:Long t.left.length
end
def Hj (t:ar):Bool:=decide (t.up.length≤30)&&decide (t.left.length≤30)&&decide (min t.here.hash.size 10000+min t.ahead.hash.size 10000+Ds t.up+Ds t.left≤8000)
structure zO (m:aa):Prop where
 sld:DK m.sld.r=true
 stag:m.sld.tag.size≤1000
 rcp:AV m.rcp=true
 cipher:m.told.cipher.size≤8000
 proof:Hj m.told=true
def qp (m:aa) (e:Ending):Prop:=∃q,e= .returned (.bool q)∧(q=true→zO m)
theorem qp.no {m:aa} {e:Ending} (h:e= .returned (.bool false)):qp m e:=⟨false,h,fun h=>by cases h⟩
theorem qp.any {m:aa} {e:Ending} {q:Bool} (he:e= .returned (.bool q)) (h:q=true→zO m):qp m e:=⟨q,he,h⟩
theorem zO.tame {m:aa} {w:World} {u l:Value} (h:zO m) (hf:F4 w m u l):bc m:=by
 have h1:=h.sld;have h3:=h.rcp;have h5:=h.proof
 simp only[DK,AV,Hj,Bool.and_eq_true,decide_eq_true_eq]at h1 h3 h5
 exact⟨by omega,by omega,by omega,by omega,by omega,by omega,hf.sld.epoch,by omega,by omega,hf.rcp.r.epoch,hf.rcp.seq⟩
def bJ:List Value:=aa.zero.cells (.slice none 0 0) (.slice none 0 0)
theorem ed (w:World):Sem.run Tryz.prog (zeroValue 73) w= .ok (.agg bJ.toArray) w:=by kernel_rfl
theorem cr {m:aa} {u l:Value} {n k:Nat} (hu:∃(p:Option Addr) (c:Nat),u= .slice p n c) (hl:∃(p:Option Addr) (c:Nat),l= .slice p k c):∀v∈m.cells u l,v.oneCell'=true:=by
 obtain⟨p,c,rfl⟩:=hu
 obtain⟨p',c',rfl⟩:=hl
 intro v hv
 simp only[aa.cells,List.mem_cons,List.mem_nil_iff,or_false]at hv
 rcases hv with rfl|rfl|rfl|rfl|rfl|rfl|rfl|rfl|rfl|rfl|rfl|rfl|rfl|rfl|rfl|rfl|rfl|rfl|rfl|rfl|rfl|rfl|rfl|rfl|rfl|rfl|rfl|rfl|rfl|rfl|rfl|rfl|rfl|rfl|rfl|rfl|rfl|rfl|rfl|rfl|rfl<;>rfl
theorem bR:∃(p:Option Addr) (c:Nat),Value.slice none 0 0= .slice p 0 c:=⟨_,_,rfl⟩
def yP (m:aa) (u l:Value) (e:Ending) (w':World):Prop:=∃u' l',e= .returned ((fk m).v u' l')∧aX w' u' (fk m).told.up∧aX w' l' (fk m).told.left
theorem yP.nil {m y:aa} {u l:Value} {e:Ending} {w':World} (h:e= .returned (y.v (.slice none 0 0) (.slice none 0 0))) (hy:fk m=y) (h1:y.told.up=[]) (h2:y.told.left=[]):yP m u l e w':=by
 subst hy
 exact⟨_,_,h,h1 ▸ aC.nil _ _,h2 ▸ aC.nil _ _⟩
structure I3 (n:Int) (k:Nat):Prop where
 lo:0≤n
 hi:n.toNat<256^k
 fits:n<9223372036854775808
theorem oi.yes {key label:List UInt8} {xs:List Int} {e:Ending} (h:oi key label xs e) (h1:key.length=32) (h2:cK label xs=true):
  ∃r,e= .returned (.tuple #[.string r, .bool true])∧ak r (dw key label (xs.map Int.toNat)):=by
 rcases h with⟨_,h⟩|⟨h,_⟩
 ·exact h
 ·exact absurd ⟨h1,h2⟩ h
theorem oi.no {key label:List UInt8} {xs:List Int} {e:Ending} (h:oi key label xs e) (h1:¬(key.length=32∧cK label xs=true)):
  e= .returned (.tuple #[.string ⟨#[]⟩, .bool false]):=by
 rcases h with⟨h,_⟩|⟨_,h⟩
 ·exact absurd h h1
 ·exact h
theorem se {x:aN} (h:cI x=true):(kN x).length≤35:=by
 have:=jH (yK x []) (fun _=>by
  unfold cI at h
  simp only[Bool.or_eq_true,decide_eq_true_eq]at h
  rcases h with h|h
  ·rw[h];exact Nat.zero_le _
  ·simp only[dp,Bool.and_eq_true,decide_eq_true_eq]at h;omega)
 simpa using this
theorem sf {xs:List ByteArray} (hl:xs.length≤12) (ha:dl xs=true):(jR xs).length≤8200:=by
 have:=(gk (qZ xs []) (fun _=>hl) (fun _ x hx=>by rw[sd ha x hx];exact Nat.le_refl _)).1
 simpa using this
theorem BU {t:ar} (h:dd t=true):(jS t).length≤25000:=by
 have ht:=(rf t).1 h
 have hto:=ht.2
 simp only[ko,Bool.and_eq_true,decide_eq_true_eq]at hto
 obtain⟨⟨⟨⟨⟨⟨g1,g2⟩,g3⟩,g4⟩,g5⟩,g6⟩,⟨⟨g7,g8⟩,g9⟩,g10⟩:=hto
 have h1:=se g5
 have h2:=se g6
 have h3:=sf g7 g9
 have h4:=sf g8 g10
 have h5:(bT t.cipher.data.toList).length=4+t.cipher.size:=bQ _
 unfold jS
 split
 ·simp[js,jQ,beBytes_length]
 ·simp only[List.length_append,js,jQ,beBytes_length];omega
theorem BV {m:aa} (h:aM m=true):(dQ m).length≤25000:=by
 have hs:=(cS h).says
 have hl:m.last.data.toList.length≤32:=(cS h).last
 unfold dQ
 unfold aF at hs
 split
 ·simp[beBytes_length]
 next h1=>
 split
 ·simp only[List.length_append,beBytes_length];omega
 next h4=>
 split
 ·simp[beBytes_length]
 next h5=>
 split
 ·next h6=>
  simp[h6]at hs
  have:=cP hs.1.2
  have h2:m.sld.tag.data.toList.length=m.sld.tag.size:=rfl
  simp only[List.length_append,beBytes_length];omega
 next h6=>
 split
 ·simp[js,beBytes_length]
 next h7=>
 split
 ·next h8=>simp[h8]at hs;exact BU hs
 next h8=>
 split
 ·next h10=>simp[h10]at hs;have:=gY hs;omega
 ·simp
theorem xy {m:aa} (h:aM m=true):(eU m).length≤26000:=by
 have h1:=BV h
 have h2:m.nonce.data.toList.length≤32:=(cS h).nonce
 unfold eU
 simp only[List.length_append,beBytes_length];omega
def jj (key:List UInt8) (m:aa):List UInt8:=nh (dw key [97,115,107] []) (eU m)
def Hk (key:ByteArray) (m:aa):Prop:=key.size=32∧(al m.kind&&aM m)=true
theorem j5 (key:ByteArray) (m:aa) (u l:Value) (w:World) (hu:aX w u m.told.up) (hl:aX w l m.told.left) (ht:bc m):
  Calls Tryz.prog 115 #[.string key,m.v u l] w fun e w'=>Ends (Hk key m) (jj key.data.toList m) 2 e∧Below w.heap.size w w':=by
 have HU:=Lib.hid (And.intro hu hl);clear hu hl
 go_enter Tryz.func115,Tryz.ntmps115
 go_wp2_with (first
  |((with_reducible refine ai 73 (.tmp 1) (m.cells u l) (some 3) ?hgd ?ho ?hd ?hx ?_);(case hgd|ho|hd|hx=>rfl);(intro b0 w0 l0 B0 e0 z0))
  |fail)
 have HB0:=Lib.hid (show Below w.heap.size w w0 from e0.mono l0)
 have HX0:=Lib.hid B0
 clear e0 l0 B0 z0
 refine(yr key _).mono ?_
 rintro e w1 ⟨he,hb1⟩
 have HX1:=Lib.hid (HX0.out.below hb1 HX0.out.lt)
 have HB1:=Lib.hid (HB0.out.trans (hb1.mono HB0.out.size))
 clear hb1
 rcases he with⟨h,k,rfl,tk⟩|⟨h,rfl⟩
 ·have HH:=Lib.hid h
  have TK:=Lib.hid tk
  clear h tk
  go_wp2_with (first
   |((with_reducible refine ag 73 (.tmp 3) b0 0 (m.cells u l) _ (some 18) (HX1.out).range Tryz.underlying73 rfl ap ?hg ?ho ?hds ?hx ?_);(case ho|hg|hds|hx=>rfl))
   |fail)
  refine(xu m u l _ (HU.out.1.below HB1.out (Nat.le_refl _)) (HU.out.2.below HB1.out (Nat.le_refl _)) ht).mono ?_
  rintro e w2 ⟨⟨hok,s,rfl,ts⟩|⟨hno,rfl⟩,hb2⟩
  ·have HO:=Lib.hid hok
   have TS:=Lib.hid ts
   have HB2:=Lib.hid (HB1.out.trans (hb2.mono HB1.out.size))
   clear hok ts hb2
   go_wp2_with fail
   refine(mI k s _ (by rw[TK.out.size,fE];omega) (by
    have h1:=HO.out
    rw[Bool.and_eq_true]at h1
    have h2:=xy h1.2
    rw[TS.out.size];omega)).mono ?_
   rintro e w3 ⟨r,rfl,tr,hb3⟩
   have TR:=Lib.hid tr
   have HB3:=Lib.hid (HB2.out.trans (hb3.mono HB2.out.size))
   clear tr hb3
   go_wp2_with fail
   go_ret2
   refine⟨.inl ⟨⟨HH.out,HO.out⟩,r,rfl,TR.out.cast ?_⟩,HB3.out⟩
   rw[show k.data.toList= _ from TK.out,show s.data.toList= _ from TS.out];rfl
  ·have HO:=Lib.hid hno
   have HB2:=Lib.hid (HB1.out.trans (hb2.mono HB1.out.size))
   clear hno hb2
   go_wp2_with fail
   go_ret2
   exact⟨.inr ⟨fun h=>HO.out h.2,rfl⟩,HB2.out⟩
 ·have HH:=Lib.hid h
  clear h
  go_wp2_with fail
  go_ret2
  exact⟨.inr ⟨fun h=>HH.out h.1,rfl⟩,HB1.out⟩
theorem Ej {y x:ByteArray} {s s':List UInt8} (h:cp true y s=some (x,s')):x.size≤32:=by
 unfold cp at h
 rw[if_pos rfl]at h
 split at h
 ·cases h
 ·simp only[Option.some.injEq,Prod.mk.injEq]at h
  rw[←h.1]
  show(s.take 32).toArray.size≤32
  rw[List.size_toArray,List.length_take];omega
theorem qq {y x:aN} {s s':List UInt8} (h:cU true y s=some (x,s')) (hy:y.hash.size≤32):x.hash.size≤32:=by
 unfold cU at h
 cases h1:cY true (decide (y≠aN.zero)) s with
 |none=>rw[h1]at h;cases h
 |some p=>
  obtain⟨a,s1⟩:=p
  rw[h1]at h
  cases a with
  |false=>simp only[Option.some.injEq,Prod.mk.injEq]at h;rw[←h.1];exact hy
  |true=>
   simp only at h
   cases h2:bu true 2 y.lba s1 with
   |none=>rw[h2]at h;cases h
   |some p=>
    obtain⟨b,s2⟩:=p
    rw[h2]at h
    simp only at h
    cases h3:cp true y.hash s2 with
    |none=>rw[h3]at h;cases h
    |some p=>
     obtain⟨c,s3⟩:=p
     rw[h3]at h
     simp only[Option.some.injEq,Prod.mk.injEq]at h
     rw[←h.1]
     exact Ej h3
structure ir (t:ar):Prop where
 up:t.up.length≤256
 left:t.left.length≤256
 here:t.here.hash.size≤32
 ahead:t.ahead.hash.size≤32
theorem xz {t t':ar} {s s':List UInt8} (h:eP true t s=some (t',s')) (ht:ir t):ir t':=by
 unfold eP at h
 cases h1:bu true 4 t.slot s with
 |none=>rw[h1]at h;cases h
 |some p=>
 obtain⟨a1,s1⟩:=p
 rw[h1]at h;simp only at h
 cases h2:textF true t.cipher s1 with
 |none=>rw[h2]at h;cases h
 |some p=>
 obtain⟨a2,s2⟩:=p
 rw[h2]at h;simp only at h
 cases h3:cY true t.found s2 with
 |none=>rw[h3]at h;cases h
 |some p=>
 obtain⟨a3,s3⟩:=p
 rw[h3]at h;simp only at h
 cases h4:bu true 4 t.at_ s3 with
 |none=>rw[h4]at h;cases h
 |some p=>
 obtain⟨a4,s4⟩:=p
 rw[h4]at h;simp only at h
 cases h5:cU true t.here s4 with
 |none=>rw[h5]at h;cases h
 |some p=>
 obtain⟨a5,s5⟩:=p
 rw[h5]at h;simp only at h
 cases h6:cU true t.ahead s5 with
 |none=>rw[h6]at h;cases h
 |some p=>
 obtain⟨a6,s6⟩:=p
 rw[h6]at h;simp only at h
 cases h7:dY true t.up s6 with
 |none=>rw[h7]at h;cases h
 |some p=>
 obtain⟨a7,s7⟩:=p
 rw[h7]at h;simp only at h
 cases h8:dY true t.left s7 with
 |none=>rw[h8]at h;cases h
 |some p=>
 obtain⟨a8,s8⟩:=p
 rw[h8]at h
 simp only[Option.some.injEq,Prod.mk.injEq]at h
 rw[←h.1]
 exact⟨(gk h7 (fun e=>by cases e) (fun e=>by cases e)).2,(gk h8 (fun e=>by cases e) (fun e=>by cases e)).2,qq h5 ht.here,qq h6 ht.ahead⟩
theorem zP {t t':ar} {s s':List UInt8} (h:di true t s=some (t',s')) (ht:ir t):ir t':=by
 unfold di at h
 cases h1:ft true t.askE t.askL s with
 |none=>rw[h1]at h;cases h
 |some p=>
 obtain⟨⟨e,l⟩,s1⟩:=p
 rw[h1]at h;simp only at h
 cases h2:cY true t.gone s1 with
 |none=>rw[h2]at h;cases h
 |some p=>
 obtain⟨g,s2⟩:=p
 rw[h2]at h
 cases g with
 |true=>simp only[Option.some.injEq,Prod.mk.injEq]at h;rw[←h.1];exact⟨ht.up,ht.left,ht.here,ht.ahead⟩
 |false=>exact xz h ⟨ht.up,ht.left,ht.here,ht.ahead⟩
theorem bc.of {m m':aa} (h:bc m) (h1:m'.told=m.told) (h2:m'.sld.r=m.sld.r) (h3:m'.rcp=m.rcp):bc m':=
 ⟨h1 ▸ h.up,h1 ▸ h.left,h1 ▸ h.here,h1 ▸ h.ahead,h2 ▸ h.sroot,h2 ▸ h.sname,h2 ▸ h.sepoch,h3 ▸ h.rroot,h3 ▸ h.rname,h3 ▸ h.repoch,h3 ▸ h.rseq⟩
theorem zQ {m m':aa} {s s':List UInt8} (h:bi true m s=some (m',s')) (hm:bc m) (ht:ir m.told):bc m':=by
 unfold bi at h
 split at h
 ·cases h1:bu true 4 m.epoch s with
  |none=>rw[h1]at h;cases h
  |some p=>rw[h1]at h;simp only[Option.some.injEq,Prod.mk.injEq]at h;rw[←h.1];exact hm.of rfl rfl rfl
 split at h
 ·cases h1:bu true 4 m.epoch s with
  |none=>rw[h1]at h;cases h
  |some p=>
  rw[h1]at h;simp only at h
  cases h2:bu true 4 m.seq p.2 with
  |none=>rw[h2]at h;cases h
  |some p2=>
  rw[h2]at h;simp only at h
  cases h3:cp true m.last p2.2 with
  |none=>rw[h3]at h;cases h
  |some p3=>rw[h3]at h;simp only[Option.some.injEq,Prod.mk.injEq]at h;rw[←h.1];exact hm.of rfl rfl rfl
 split at h
 ·cases h1:bu true 4 m.seq s with
  |none=>rw[h1]at h;cases h
  |some p=>rw[h1]at h;simp only[Option.some.injEq,Prod.mk.injEq]at h;rw[←h.1];exact hm.of rfl rfl rfl
 split at h
 ·cases h1:bu true 4 m.seq s with
  |none=>rw[h1]at h;cases h
  |some p=>
  rw[h1]at h;simp only at h
  cases h2:lB true m.sld.r p.2 with
  |none=>rw[h2]at h;cases h
  |some p2=>
  rw[h2]at h;simp only at h
  cases h3:cp true m.sld.tag p2.2 with
  |none=>rw[h3]at h;cases h
  |some p3=>
   rw[h3]at h
   simp only[Option.some.injEq,Prod.mk.injEq]at h
   have hr:bM p.2=some (p2.1,p2.2):=by simpa[lB]using h2
   have hf:=dc (iL hr).2
   rw[←h.1]
   exact⟨hm.up,hm.left,hm.here,hm.ahead,by show p2.1.root.size≤_;omega,by show p2.1.name.size≤_;omega,by show Fits p2.1.epoch;exact⟨by omega,by omega⟩,hm.rroot,hm.rname,hm.repoch,hm.rseq⟩
 split at h
 ·cases h1:ft true m.askE m.askL s with
  |none=>rw[h1]at h;cases h
  |some p=>rw[h1]at h;simp only[Option.some.injEq,Prod.mk.injEq]at h;rw[←h.1];exact hm.of rfl rfl rfl
 split at h
 ·cases h1:di true m.told s with
  |none=>rw[h1]at h;cases h
  |some p=>
   rw[h1]at h
   have:=zP h1 ht
   simp only[Option.some.injEq,Prod.mk.injEq]at h
   rw[←h.1]
   exact⟨by have:=this.up;show p.1.up.length≤_;omega,by have:=this.left;show p.1.left.length≤_;omega,by have:=this.here;show p.1.here.hash.size≤_;omega,by have:=this.ahead;show p.1.ahead.hash.size≤_;omega,hm.sroot,hm.sname,hm.sepoch,hm.rroot,hm.rname,hm.repoch,hm.rseq⟩
 split at h
 ·cases h1:lC true m.rcp s with
  |none=>rw[h1]at h;cases h
  |some p=>
   rw[h1]at h
   have hr:cG s=some (p.1,p.2):=by simpa[lC]using h1
   have hok:=(m8 hr).2
   have hf:=dc (jC hok).1
   simp only[bX,Bool.and_eq_true,decide_eq_true_eq]at hok
   simp only[Option.some.injEq,Prod.mk.injEq]at h
   rw[←h.1]
   exact⟨hm.up,hm.left,hm.here,hm.ahead,hm.sroot,hm.sname,hm.sepoch,by show p.1.r.root.size≤_;omega,by show p.1.r.name.size≤_;omega,by show Fits p.1.r.epoch;exact⟨by omega,by omega⟩,by show Fits p.1.seq;exact⟨by omega,by omega⟩⟩
 ·simp only[Option.some.injEq,Prod.mk.injEq]at h
  rw[←h.1];exact hm
theorem sg:bc aa.zero:=⟨by decide,by decide,by decide,by decide,by decide,by decide,by unfold Fits;decide,by decide,by decide,by unfold Fits;decide,by unfold Fits;decide⟩
theorem Ek (k:Int):bc {aa.zero with kind:=k}:=sg.of rfl rfl rfl
theorem BW:ir ar.zero:=⟨by decide,by decide,by decide,by decide⟩
theorem zR {s s':List UInt8} {m:aa} (h:gJ s=some (m,s')):bc m:=by
 unfold gJ at h
 cases h1:bu true 1 0 s with
 |none=>rw[h1]at h;cases h
 |some p=>
 obtain⟨k,s1⟩:=p
 rw[h1]at h;simp only at h
 unfold av at h
 have hz:=Ek k
 have hzt:ir ({aa.zero with kind:=k}:aa).told:=BW
 cases h2:bj true {aa.zero with kind:=k} s1 with
 |none=>rw[h2]at h;cases h
 |some p=>
 obtain⟨m1,s2⟩:=p
 rw[h2]at h;simp only at h
 have hm1:m1.told=({aa.zero with kind:=k}:aa).told∧m1.sld.r=({aa.zero with kind:=k}:aa).sld.r∧m1.rcp=({aa.zero with kind:=k}:aa).rcp:=by
  unfold bj at h2
  split at h2
  ·simp only[Option.some.injEq,Prod.mk.injEq]at h2;rw[←h2.1];exact⟨rfl,rfl,rfl⟩
  ·cases h3:cp true ({aa.zero with kind:=k}:aa).nonce s1 with
   |none=>rw[h3]at h2;cases h2
   |some p=>rw[h3]at h2;simp only[Option.some.injEq,Prod.mk.injEq]at h2;rw[←h2.1];exact⟨rfl,rfl,rfl⟩
 have t1:=hz.of hm1.1 hm1.2.1 hm1.2.2
 cases h4:bi true m1 s2 with
 |none=>rw[h4]at h;cases h
 |some p=>
 obtain⟨m2,s3⟩:=p
 rw[h4]at h;simp only at h
 have t2:=zQ h4 t1 (by rw[hm1.1];exact hzt)
 unfold cB at h
 split at h
 ·cases h5:cp true m2.tag s3 with
  |none=>rw[h5]at h;cases h
  |some p=>rw[h5]at h;simp only[Option.some.injEq,Prod.mk.injEq]at h;rw[←h.1];exact t2.of rfl rfl rfl
 ·simp only[Option.some.injEq,Prod.mk.injEq]at h;rw[←h.1];exact t2
end Go.Proofs.YtngiibgdgenidaaGreat
