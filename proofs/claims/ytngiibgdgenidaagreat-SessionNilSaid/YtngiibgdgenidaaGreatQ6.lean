/- Walks of package evolve. Walk of evolve.At, and the example of chapter 18. Walks of the documents' derive (chapter 04). Walks of the documents' Key, Long (chapter 04). Walks of the documents' chapter 18: Made, At, Data. Walks of octet.Get and the documents' Get, of any text. -/
import Derived.Test.YtngiibgdgenidaaGreatQ5
import Derived.Test.YtngiibgdgenidaaGreatQ2
import Derived.WalkMore
import Derived.OwnWalk
import Derived.RegionTactic
import Derived.ChangeAlike
set_option linter.unusedSimpArgs false
set_option linter.unusedVariables false
set_option maxRecDepth 100000
set_option maxHeartbeats 4000000
namespace Go.Proofs.YtngiibgdgenidaaGreat
open Go Go.RowKit
def Fa:ByteArray:=⟨#[115,101,97,108]⟩
def IC:ByteArray:=⟨#[110,101,120,116]⟩
def IR:ByteArray:=⟨#[109,97,99]⟩
def IU:ByteArray:=⟨#[97,115,107]⟩
def ID:ByteArray:=⟨#[100,97,116,97]⟩
def dw (key label:List UInt8) (xs:List Nat):List UInt8:=nh key (jW label xs)
def iV (root:List UInt8) (first:Nat):Nat→List UInt8
 |0=>dw root [115,101,97,108] [first]
 |j+1=>dw (iV root first j) [110,101,120,116] []
theorem fE (k l:List UInt8) (xs:List Nat):(dw k l xs).length=32:=dR _ _
theorem fU (r:List UInt8) (f j:Nat):(iV r f j).length=32:=by cases j<;>exact fE _ _ _
theorem iv (n:Int) (w:World):
  Calls Tryz.prog 144 #[.int .i64 n] w fun e w'=>e= .returned (.bool (decide (0≤n∧n≤4294967295)))∧w=w':=by
 by_cases c1:0≤n
 ·by_cases c2:n≤4294967295
  ·rw[decide_eq_true (show 0≤n∧n≤4294967295 by omega)]
   go_enter Tryz.func144,Tryz.ntmps144
   go_wp2_with fail
   go_ret
   exact⟨rfl,rfl⟩
  ·have d2:4294967295<n:=by omega
   rw[decide_eq_false (show¬(0≤n∧n≤4294967295) by omega)]
   go_enter Tryz.func144,Tryz.ntmps144
   go_wp2_with fail
   go_ret
   exact⟨rfl,rfl⟩
 ·have d1:n<0:=by omega
  rw[decide_eq_false (show¬(0≤n∧n≤4294967295) by omega)]
  go_enter Tryz.func144,Tryz.ntmps144
  go_wp2_with fail
  go_ret
  exact⟨rfl,rfl⟩
theorem oh (key label:ByteArray) (v:Value) (xs:List Int) (w:World) (h:bF w v xs) (hok:cK label.data.toList xs=true) (hx:∀(j:Nat) (x:Int),xs[j]?=some x→x<9223372036854775808) (hxl:xs.length≤1073741824):
  Calls Tryz.prog 145 #[.string key, .string label,v] w fun e w'=>Ends (key.size=32) (dw key.data.toList label.data.toList (xs.map Int.toNat)) 2 e∧Below w.heap.size w w':=by
 have Hx:=Lib.hid hx;clear hx
 have H:=Lib.hid h;clear h
 have HO:=Lib.hid hok;clear hok
 by_cases c1:key.size=32
 ·have d1:(key.size:Int)=32:=by omega
  go_enter Tryz.func145,Tryz.ntmps145
  go_wp2_with fail
  refine(vP key label v xs _ (by omega) H.out Hx.out hxl).mono ?_
  rintro e w1 ⟨⟨_,r,rfl,tr⟩|⟨hno,rfl⟩,hb1⟩
  ·go_wp2_with fail
   go_ret2
   exact⟨.inl ⟨c1,r,rfl,tr⟩,hb1⟩
  ·exact absurd (HO.out.symm.trans hno) (by decide)
 ·have d1:¬(key.size:Int)=32:=by omega
  go_enter Tryz.func145,Tryz.ntmps145
  go_wp2_with fail
  go_ret2
  exact⟨.inr ⟨c1,rfl⟩,Below.refl _ _⟩
theorem nL (key:ByteArray) (w:World):
  Calls Tryz.prog 206 #[.string key] w fun e w'=>Ends (key.size=32) (dw key.data.toList [110,101,120,116] []) 2 e∧Below w.heap.size w w':=by
 go_enter Tryz.func206,Tryz.ntmps206
 go_wp2_with fail
 refine(oh key IC _ [] _ (bF.nil _) (by decide) (fun j x h=>by simp at h) (by simp)).mono ?_
 rintro e w1 ⟨⟨h,r,rfl,tr⟩|⟨h,rfl⟩,hb1⟩
 ·go_wp2_with fail
  go_ret2
  exact⟨.inl ⟨h,r,rfl,tr⟩,hb1⟩
 ·go_wp2_with fail
  go_ret2
  exact⟨.inr ⟨h,rfl⟩,hb1⟩
theorem yq (key:ByteArray) (w:World):
  Calls Tryz.prog 305 #[.string key] w fun e w'=>Ends (key.size=32) (dw key.data.toList [109,97,99] []) 2 e∧Below w.heap.size w w':=by
 go_enter Tryz.func305,Tryz.ntmps305
 go_wp2_with fail
 refine(oh key IR _ [] _ (bF.nil _) (by decide) (fun j x h=>by simp at h) (by simp)).mono ?_
 rintro e w1 ⟨⟨h,r,rfl,tr⟩|⟨h,rfl⟩,hb1⟩
 ·go_wp2_with fail
  go_ret2
  exact⟨.inl ⟨h,r,rfl,tr⟩,hb1⟩
 ·go_wp2_with fail
  go_ret2
  exact⟨.inr ⟨h,rfl⟩,hb1⟩
theorem yr (key:ByteArray) (w:World):
  Calls Tryz.prog 215 #[.string key] w fun e w'=>Ends (key.size=32) (dw key.data.toList [97,115,107] []) 2 e∧Below w.heap.size w w':=by
 go_enter Tryz.func215,Tryz.ntmps215
 go_wp2_with fail
 refine(oh key IU _ [] _ (bF.nil _) (by decide) (fun j x h=>by simp at h) (by simp)).mono ?_
 rintro e w1 ⟨⟨h,r,rfl,tr⟩|⟨h,rfl⟩,hb1⟩
 ·go_wp2_with fail
  go_ret2
  exact⟨.inl ⟨h,r,rfl,tr⟩,hb1⟩
 ·go_wp2_with fail
  go_ret2
  exact⟨.inr ⟨h,rfl⟩,hb1⟩
theorem vQ (root:ByteArray) (w:World):
  Calls Tryz.prog 75 #[.string root] w fun e w'=>Ends (root.size=32) (nX root.data.toList [100,97,116,97] 16) 2 e∧Below w.heap.size w w':=by
 by_cases c1:root.size=32
 ·have d1:(root.size:Int)=32:=by omega
  go_enter Tryz.func75,Tryz.ntmps75
  go_wp2_with fail
  refine(Dp root ID 16 _ (by omega)).mono ?_
  rintro e w1 ⟨⟨_,_,_,r,rfl,tr⟩|⟨hno,rfl⟩,hb1⟩
  ·go_wp2_with fail
   go_ret2
   exact⟨.inl ⟨c1,r,rfl,tr⟩,hb1⟩
  ·rcases hno with h|h|h
   ·omega
   ·omega
   ·exact absurd h (by decide)
 ·have d1:¬(root.size:Int)=32:=by omega
  go_enter Tryz.func75,Tryz.ntmps75
  go_wp2_with fail
  go_ret2
  exact⟨.inr ⟨c1,rfl⟩,Below.refl _ _⟩
theorem fZ (root:ByteArray) (n:Int) (w:World):
  Calls Tryz.prog 77 #[.string root, .int .i64 n] w fun e w'=>Ends (0≤n∧n≤4294967295∧root.size=32) (dw root.data.toList [115,101,97,108] [n.toNat]) 2 e∧Below w.heap.size w w':=by
 by_cases c1:0≤n∧n≤4294967295
 ·go_enter Tryz.func77,Tryz.ntmps77
  go_wp2_with fail
  refine(iv n _).mono ?_
  rintro e w1 ⟨rfl,rfl⟩
  rw[decide_eq_true c1]
  go_wp2_with ((with_reducible refine bD 22 3 1 ?parts [.int .i64 n] (.int .i64 0) 1 8 (some 11) Tryz.underlying22 Gk (by omega) (by omega) ?hgd ?ho ?hd ?hf ?_);(case hgd|ho|hd=>rfl);(case hf=>kernel_rfl);(intro g w2 l2 B2 e2 z2))
  refine(oh root Fa _ [n] _ (bF.blk (xs:=[n]) B2 rfl 1) ?_ ?_ (by simp)).mono ?_
  ·simp[cK,Fa];omega
  ·intro j x hx
   cases j with
   |zero=>simp at hx;omega
   |succ j=>simp at hx
  rintro e w3 ⟨⟨h,r,rfl,tr⟩|⟨h,rfl⟩,hb3⟩
  ·go_wp2_with fail
   go_ret2
   exact⟨.inl ⟨⟨c1.1,c1.2,h⟩,r,rfl,tr⟩,(e2.mono l2).trans (hb3.mono (by omega))⟩
  ·go_wp2_with fail
   go_ret2
   exact⟨.inr ⟨fun hh=>h hh.2.2,rfl⟩,(e2.mono l2).trans (hb3.mono (by omega))⟩
 ·go_enter Tryz.func77,Tryz.ntmps77
  go_wp2_with fail
  refine(iv n _).mono ?_
  rintro e w1 ⟨rfl,rfl⟩
  rw[decide_eq_false c1]
  go_wp2_with fail
  go_ret2
  exact⟨.inr ⟨fun hh=>c1 ⟨hh.1,hh.2.1⟩,rfl⟩,Below.refl _ _⟩
def AtEnd (root:List UInt8) (first epoch:Int) (e:Ending):Prop:=
 ((0≤epoch∧epoch≤4294967295∧first≤epoch∧0≤first∧root.length=32∧epoch-first≤4096)∧∃r,e= .returned (.tuple #[.string r, .int .i64 0])∧ak r (iV root first.toNat (epoch-first).toNat))∨
 ((epoch<0∨4294967295<epoch∨epoch<first∨first<0∨root.length≠32)∧e= .returned (.tuple #[.string ⟨#[]⟩, .int .i64 2]))∨
 ((0≤epoch∧epoch≤4294967295∧first≤epoch∧0≤first∧root.length=32∧4096<epoch-first)∧e= .returned (.tuple #[.string ⟨#[]⟩, .int .i64 6]))
theorem Gl (root:ByteArray) (first epoch:Int) (w:World):
  Calls Tryz.prog 217 #[.string root, .int .i64 first, .int .i64 epoch] w fun e w'=>AtEnd root.data.toList first epoch e∧Below w.heap.size w w':=by
 by_cases c1:0≤epoch∧epoch≤4294967295
 ·by_cases c2:epoch<first
  ·go_enter Tryz.func217,Tryz.ntmps217
   go_wp2_with fail
   go_step3
   go_wp2_with fail
   refine(iv epoch _).mono ?_
   rintro e w1 ⟨rfl,rfl⟩
   rw[decide_eq_true c1]
   go_wp2_with fail
   rw[Exit.noGoto_ret]
   go_ret2
   have hrl:root.data.toList.length=root.size:=rfl
   exact⟨.inr (.inl ⟨by omega,rfl⟩),Below.refl _ _⟩
  ·have d2:first≤epoch:=by omega
   by_cases c3:0≤first∧root.size=32
   ·by_cases c4:4096<epoch-first
    ·go_enter Tryz.func217,Tryz.ntmps217
     go_wp2_with fail
     go_step3
     go_wp2_with fail
     refine(iv epoch _).mono ?_
     rintro e w1 ⟨rfl,rfl⟩
     rw[decide_eq_true c1]
     go_wp2_with fail
     refine(fZ root first _).mono ?_
     rintro e w2 ⟨he,hb2⟩
     obtain⟨r,rfl,tr⟩:=he.yes (by omega)
     go_wp2_with fail
     rw[Exit.noGoto_ret]
     go_ret2
     have hrl:root.data.toList.length=root.size:=rfl
     exact⟨.inr (.inr ⟨by omega,rfl⟩),hb2⟩
    ·have d4:epoch-first≤4096:=by omega
     obtain⟨m,Hm⟩:∃m:Nat,Hid ((m:Int)=epoch-first):=⟨(epoch-first).toNat,Lib.hid (show(((epoch-first).toNat:Nat):Int)=epoch-first by omega)⟩
     have hm:m≤4096:=by have:=Hm.out;omega
     go_enter Tryz.func217,Tryz.ntmps217
     go_wp2_with fail
     go_step3
     go_wp2_with fail
     refine(iv epoch _).mono ?_
     rintro e w1 ⟨rfl,rfl⟩
     rw[decide_eq_true c1]
     go_wp2_with fail
     refine(fZ root first _).mono ?_
     rintro e w2 ⟨he,hb2⟩
     obtain⟨r,rfl,tr⟩:=he.yes (by omega)
     clear he
     go_wp2_with fail
     go_step3
     go_wp2_with fail
     go_loopw [8,32] (fun key i wr=>∃(k:Nat) (s:ByteArray),k≤m∧i= .int .i64 k∧key= .string s∧ak s (iV root.data.toList first.toNat k)∧Below w.heap.size w wr) (fun key i _=>m-(intOf i).toNat)
     case atStart=>exact⟨0,r,by omega,rfl,rfl,tr,hb2⟩
     case round=>
      clear hb2 tr
      obtain⟨k,s,hk,rfl,rfl,ts,hbel⟩:=hrel
      have hs:s.size=32:=by rw[ts.size,fU]
      have hk':(k:Int)≤4096:=by omega
      by_cases hlt:k<m
      ·have hne:¬(k:Int)=epoch-first:=by have:=Hm.out;omega
       go_wp2_with fail
       refine(nL s _).mono ?_
       rintro e w3 ⟨he,hb3⟩
       obtain⟨q,rfl,tq⟩:=he.yes hs
       clear he
       go_wp2_with fail
       go_roundw
       case rel=>
        have y:=hbel.size
        refine⟨k+1,q,by omega,by go_num,rfl, ?_,hbel.trans (hb3.mono y)⟩
        exact tq.cast (by rw[ts];rfl)
       case measure=>simp[intOf];omega
      ·obtain rfl:k=m:=by omega
       have heq:(k:Int)=epoch-first:=Hm.out
       go_wp2_with fail
       rw[Exit.noGoto_ret]
       go_ret2
       have hrl:root.data.toList.length=root.size:=rfl
       exact⟨.inl ⟨by omega,s,rfl,ts.cast (by rw[show(epoch-first).toNat=k by omega])⟩,hbel⟩
   ·go_enter Tryz.func217,Tryz.ntmps217
    go_wp2_with fail
    go_step3
    go_wp2_with fail
    refine(iv epoch _).mono ?_
    rintro e w1 ⟨rfl,rfl⟩
    rw[decide_eq_true c1]
    go_wp2_with fail
    refine(fZ root first _).mono ?_
    rintro e w2 ⟨he,hb2⟩
    have he:=he.no (by omega)
    subst he
    go_wp2_with fail
    rw[Exit.noGoto_ret]
    go_ret2
    have hrl:root.data.toList.length=root.size:=rfl
    exact⟨.inr (.inl ⟨by omega,rfl⟩),hb2⟩
 ·go_enter Tryz.func217,Tryz.ntmps217
  go_wp2_with fail
  go_step3
  go_wp2_with fail
  refine(iv epoch _).mono ?_
  rintro e w1 ⟨rfl,rfl⟩
  rw[decide_eq_false c1]
  go_wp2_with fail
  rw[Exit.noGoto_ret]
  go_ret2
  have hrl:root.data.toList.length=root.size:=rfl
  exact⟨.inr (.inl ⟨by omega,rfl⟩),Below.refl _ _⟩
def oi (key label:List UInt8) (xs:List Int) (e:Ending):Prop:=
 ((key.length=32∧cK label xs=true)∧∃r,e= .returned (.tuple #[.string r, .bool true])∧ak r (dw key label (xs.map Int.toNat)))∨
 (¬(key.length=32∧cK label xs=true)∧e= .returned (.tuple #[.string ⟨#[]⟩, .bool false]))
theorem yt (l:List UInt8) (a:Nat):l.foldl (fun n b=>256*n+b.toNat) a=a*256^l.length+aW l:=by
 induction l generalizing a with
 |nil=>simp[aW]
 |cons b r ih=>
  unfold aW
  rw[List.foldl_cons,ih,List.foldl_cons,ih (256*0+b.toNat),List.length_cons,Nat.pow_succ,Nat.add_mul]
  rw[Nat.mul_zero,Nat.zero_add,show 256*a*256^r.length=a*(256^r.length*256) by rw[Nat.mul_comm 256 a,Nat.mul_assoc,Nat.mul_comm 256]]
  omega
theorem Az (b:UInt8) (r:List UInt8):aW (b::r)=b.toNat*256^r.length+aW r:=by
 unfold aW
 rw[List.foldl_cons,yt]
 simp[aW]
theorem qG {l:List UInt8} {c:UInt8} {n:Nat} (hc:l[0]?=some c) (hn:l.length=n):c.toNat*256^(n-1)≤aW l∧aW l<(c.toNat+1)*256^(n-1):=by
 subst hn
 cases l with
 |nil=>simp at hc
 |cons b r=>
  simp at hc
  subst hc
  rw[Az]
  have:=iu r
  simp only[List.length_cons,Nat.add_sub_cancel,Nat.add_mul]
  omega
theorem Dq (x b:Nat) (hx:x<36028797018963968) (hb:b<256):bits BinOp.or IntKind.i64 ((x:Int)*256) ((b:Nat):Int)=((256*x+b:Nat):Int):=by
 rw[show(x:Int)*256=((x*256:Nat):Int) by simp,Ax _ _ (by omega) (by omega)]
 have:=Nat.two_pow_add_eq_or_of_lt (i:=8) (b:=b) (by omega) x
 rw[show x*256=2^8*x by omega,←this]
theorem iJ (s:ByteArray) (w:World):
  Calls Tryz.prog 225 #[.string s] w fun e w'=>Ig s.data.toList e∧w=w':=by
 have hl:s.data.toList.length=s.size:=rfl
 have HL:=Lib.hid hl;clear hl
 by_cases c1:s.size<1
 ·have d1:=emptyText c1
  have d0:(s.size:Int)<1:=by omega
  go_enter Tryz.func225,Tryz.ntmps225
  go_wp2_with fail
  go_ret2
  exact⟨.inr ⟨by rw[HL.out];omega,rfl⟩,rfl⟩
 have d1:=kG (s:=s) (by omega)
 by_cases c2:8<s.size
 ·have d2:(8:Int)<s.size:=by omega
  go_enter Tryz.func225,Tryz.ntmps225
  go_wp2_with fail
  go_ret2
  exact⟨.inr ⟨by rw[HL.out];omega,rfl⟩,rfl⟩
 have d2:(s.size:Int)≤8:=by omega
 have h0:0<s.size:=by omega
 by_cases c3:s.size=8∧127<s[0].toNat
 ·obtain⟨c4,c5⟩:=c3
  have d4:(s.size:Int)=8:=by omega
  have d3:(127:Int)<(s[0].toNat:Int):=by omega
  have hbig:¬aW s.data.toList<9223372036854775808:=by
   have:=(qG (l:=s.data.toList) (c:=s[0]) (by rw[List.getElem?_eq_getElem (by rw[HL.out];exact h0)];rfl) (HL.out.trans c4)).1
   omega
  have HB:=Lib.hid hbig;clear hbig
  go_enter Tryz.func225,Tryz.ntmps225
  go_wp2_with fail
  go_ret2
  exact⟨.inr ⟨fun h=>HB.out h.2.2,rfl⟩,rfl⟩
 have hok:∀k,aW (s.data.toList.take k)<9223372036854775808:=by
  intro k
  refine Nat.lt_of_le_of_lt (Aw _ k) ?_
  by_cases c4:s.size=8
  ·have h1:s[0].toNat≤127:=by omega
   have:=(qG (l:=s.data.toList) (c:=s[0]) (by rw[List.getElem?_eq_getElem (by rw[HL.out];exact h0)];rfl) (HL.out.trans c4)).2
   omega
  ·have h1:=iu s.data.toList
   rw[HL.out]at h1
   exact Nat.lt_trans h1 (Nat.lt_of_le_of_lt (Nat.pow_le_pow_right (by omega) (show s.size≤7 by omega)) (by omega))
 have HK:=Lib.hid hok;clear hok
 by_cases c4:s.size=8
 ·have d4:(s.size:Int)=8:=by omega
  obtain⟨b0,hb0⟩:∃b0,s[0]=b0:=⟨_,rfl⟩
  rw[hb0]at c3
  have d3:(b0.toNat:Int)≤127:=by omega
  clear c3 d2
  go_enter Tryz.func225,Tryz.ntmps225
  go_wp2_with fail
  clear hb0 d3
  go_loopw [4,25] (fun a i wr=>∃k:Nat,k≤8∧i= .int .i64 k∧a= .int .i64 ((aW (s.data.toList.take k):Nat):Int)∧w=wr) (fun a i _=>8-(intOf i).toNat)
  case atStart=>exact⟨0,by omega,rfl,rfl,rfl⟩
  case round=>
   obtain⟨k,hk,rfl,rfl,rfl⟩:=hrel
   obtain⟨x,Hx⟩:∃x,Hid (x=aW (s.data.toList.take k)):=⟨_,rfl⟩
   rw[←Hx.out]
   by_cases hlt:k<8
   ·have hlt':(k:Int)<8:=by omega
    have hks:k<s.size:=by omega
    have e1:=ka s.data.toList k (by rw[HL.out];exact hks)
    have e3:s.data.toList[k]'(by rw[HL.out];exact hks)=s[k]:=rfl
    rw[e3,←Hx.out]at e1
    have e2:=HK.out (k+1)
    rw[e1]at e2
    have E1:=Lib.hid e1;clear e1 e3
    have hb:=s[k].toNat_lt
    have x1:(x:Int)<36028797018963968:=by omega
    have x2:256*(x:Int)+(s[k].toNat:Int)<9223372036854775808:=by omega
    go_wp2_with fail
    go_roundw
    case rel=>
     refine⟨k+1,by omega,by go_num, ?_,by trivial⟩
     rw[E1.out]
     rw[Dq x _ (by omega) (by omega)]
    case measure=>simp[intOf];omega
   ·obtain rfl:k=8:=by omega
    have e4:Hid (x=aW s.data.toList):=by show x= _;rw[Hx.out,List.take_of_length_le (by rw[HL.out];omega)]
    have e5:x<9223372036854775808:=by have:=HK.out 8;rw[←Hx.out]at this;exact this
    have E5:=Lib.hid e5;clear e5
    go_wp2_with fail
    go_ret2
    refine⟨.inl ⟨⟨by rw[HL.out];omega,by rw[HL.out];omega,by rw[←e4.out];exact E5.out⟩, ?_⟩,rfl⟩
    rw[←e4.out];rfl
 ·have d4:(s.size:Int)≤7:=by omega
  have d5:¬(s.size:Int)=8:=by omega
  clear c3 d2
  go_enter Tryz.func225,Tryz.ntmps225
  go_wp2_with fail
  clear d5
  go_loopw [4,25] (fun a i wr=>∃k:Nat,k≤s.size∧i= .int .i64 k∧a= .int .i64 ((aW (s.data.toList.take k):Nat):Int)∧w=wr) (fun a i _=>8-(intOf i).toNat)
  case atStart=>exact⟨0,by omega,rfl,rfl,rfl⟩
  case round=>
   obtain⟨k,hk,rfl,rfl,rfl⟩:=hrel
   obtain⟨x,Hx⟩:∃x,Hid (x=aW (s.data.toList.take k)):=⟨_,rfl⟩
   rw[←Hx.out]
   by_cases hlt:k<s.size
   ·have hlt':(k:Int)<s.size:=by omega
    have hks:k<s.size:=by omega
    have e1:=ka s.data.toList k (by rw[HL.out];exact hks)
    have e3:s.data.toList[k]'(by rw[HL.out];exact hks)=s[k]:=rfl
    rw[e3,←Hx.out]at e1
    have e2:=HK.out (k+1)
    rw[e1]at e2
    have E1:=Lib.hid e1;clear e1 e3
    have hb:=s[k].toNat_lt
    have x1:(x:Int)<36028797018963968:=by omega
    have x2:256*(x:Int)+(s[k].toNat:Int)<9223372036854775808:=by omega
    go_wp2_with fail
    go_roundw
    case rel=>
     refine⟨k+1,by omega,by go_num, ?_,by trivial⟩
     rw[E1.out]
     rw[Dq x _ (by omega) (by omega)]
    case measure=>simp[intOf];omega
   ·obtain rfl:k=s.size:=by omega
    have e4:Hid (x=aW s.data.toList):=by show x= _;rw[Hx.out,List.take_of_length_le (by rw[HL.out];omega)]
    have e5:x<9223372036854775808:=by have:=HK.out s.size;rw[←Hx.out]at this;exact this
    have E5:=Lib.hid e5;clear e5
    go_wp2_with fail
    go_ret2
    refine⟨.inl ⟨⟨by rw[HL.out];omega,by rw[HL.out];omega,by rw[←e4.out];exact E5.out⟩, ?_⟩,rfl⟩
    rw[←e4.out];rfl
theorem ei (w n:Nat) (h:n<256^w):aW (beBytes w n)=n:=by
 induction w generalizing n with
 |zero=>simp at h;subst h;rfl
 |succ w ih=>
  unfold beBytes
  rw[mJ,ih (n/256) (by rw[Nat.pow_succ]at h;omega)]
  have:(UInt8.ofNat (n % 256)).toNat=n % 256:=by simp[UInt8.toNat_ofNat']
  rw[this]
  omega
theorem Gm {l:List UInt8} {w:Nat} (h:l.length=w+1):∃(m:List UInt8) (b:UInt8),l=m++[b]∧m.length=w:=by
 refine⟨l.dropLast,l.getLast (by intro e;rw[e]at h;simp at h),(List.dropLast_concat_getLast _).symm,by rw[List.length_dropLast];omega⟩
theorem dC:∀(w:Nat) (l:List UInt8),l.length=w→beBytes w (aW l)=l:=by
 intro w
 induction w with
 |zero=>intro l h;rw[List.length_eq_zero_iff]at h;subst h;rfl
 |succ w ih=>
  intro l h
  obtain⟨m,b,rfl,hm⟩:=Gm h
  have hb:=b.toNat_lt
  unfold beBytes
  rw[mJ,show(256*aW m+b.toNat)/256=aW m by omega,show(256*aW m+b.toNat) % 256=b.toNat by omega,ih m hm]
  simp
def dN (l:List UInt8):Option (List UInt8×List UInt8):=
 if l.length<4∨l.length-4<aW (l.take 4)then none else some ((l.drop 4).take (aW (l.take 4)),(l.drop 4).drop (aW (l.take 4)))
theorem nM {t s:List UInt8} (h:t.length<4294967296):dN (bT t++s)=some (t,s):=by
 have e1:(bT t++s).take 4=beBytes 4 t.length:=by
  unfold bT
  rw[List.append_assoc,List.take_append_of_le_length (by rw[beBytes_length];omega),List.take_of_length_le (by rw[beBytes_length];omega)]
 have e2:(bT t++s).drop 4=t++s:=by
  unfold bT
  rw[List.append_assoc,List.drop_append_of_le_length (by rw[beBytes_length];omega),List.drop_of_length_le (by rw[beBytes_length];omega),List.nil_append]
 unfold dN
 rw[e1,e2,ei 4 t.length (by simpa using h)]
 have e3:(bT t++s).length=4+t.length+s.length:=by unfold bT;simp[beBytes_length];omega
 rw[if_neg (by rw[e3];omega)]
 simp
theorem nN {l t s:List UInt8} (h:dN l=some (t,s)):l=bT t++s∧t.length<4294967296:=by
 unfold dN at h
 split at h
 ·cases h
 ·next hc=>
  injection h with h
  injection h with h1 h2
  have hlt:=iu (l.take 4)
  have hl4:(l.take 4).length=4:=by rw[List.length_take];omega
  rw[hl4]at hlt
  have htl:t.length=aW (l.take 4):=by rw[←h1,List.length_take,List.length_drop];omega
  refine⟨?_,by rw[htl];simpa using hlt⟩
  unfold bT
  rw[htl,dC 4 _ hl4,←h1,←h2,List.append_assoc,List.take_append_drop,List.take_append_drop]
theorem mK {l t s:List UInt8} (h:dN l=some (t,s)):t.length≤l.length∧s.length≤l.length:=by
 rw[(nN h).1]
 unfold bT
 simp
 omega
def ll (l:List UInt8):Bool:=decide (1≤l.length)&&decide (l.length≤8)&&decide (aW l<9223372036854775808)
theorem jK {l:List UInt8}:ll l=true↔(1≤l.length∧l.length≤8∧aW l<9223372036854775808):=by simp[ll,and_assoc]
def bn:List Nat→List UInt8→Option (List Int)
 |[],_=>some []
 |w::ws,l=>if ll (l.take w)then(bn ws (l.drop w)).map (((aW (l.take w):Nat):Int)::·)else none
structure aK where
 blocks:Int
 lbas:Int
 first:Int
deriving DecidableEq
def aK.cells (g:aK):List Value:=[.int .i64 g.blocks, .int .i64 g.lbas, .int .i64 g.first]
def aK.v (g:aK):Value:= .agg #[.int .i64 g.blocks, .int .i64 g.lbas, .int .i64 g.first]
def aK.zero:aK:=⟨0,0,0⟩
structure dx (g:aK):Prop where
 b0:8≤g.blocks
 b1:g.blocks≤1024
 l0:1≤g.lbas
 l1:g.lbas≤4096
 f0:0≤g.first
 f1:g.first<4294967296
def iW (g:aK):List UInt8:=beBytes 4 g.blocks.toNat++beBytes 4 g.lbas.toNat++beBytes 4 g.first.toNat
theorem gV (g:aK):(iW g).length=12:=by unfold iW;simp[beBytes_length]
structure aD where
 gen:Int
 tail:Int
 epoch:Int
 clock:Int
 geo:aK
deriving DecidableEq
def aD.cells (s:aD):List Value:=[.int .i64 s.gen, .int .i64 s.tail, .int .i64 s.epoch, .int .i64 s.clock, .int .i64 s.geo.blocks, .int .i64 s.geo.lbas, .int .i64 s.geo.first]
def aD.v (s:aD):Value:= .agg #[.int .i64 s.gen, .int .i64 s.tail, .int .i64 s.epoch, .int .i64 s.clock, .int .i64 s.geo.blocks, .int .i64 s.geo.lbas, .int .i64 s.geo.first]
def aD.zero:aD:=⟨0,0,0,0, .zero⟩
structure gi (s:aD):Prop where
 geo:dx s.geo
 g0:1≤s.gen
 g1:s.gen≤1152921504606846976
 t0:0≤s.tail
 t1:s.tail≤s.geo.blocks-4
 e0:s.geo.first≤s.epoch
 e1:s.epoch<4294967296
 c0:0≤s.clock
 c1:s.clock≤1099511627776
def kd:List UInt8:=[107,101,101,112,115,97,107,101,49]
def eI (s:aD):List UInt8:=kd++(beBytes 8 s.gen.toNat++beBytes 4 s.tail.toNat++beBytes 4 s.epoch.toNat++beBytes 8 s.clock.toNat)++iW s.geo
theorem rG (s:aD):(eI s).length=45:=by unfold eI kd;simp[beBytes_length,gV]
def ke (l:List UInt8) (n:Nat):List UInt8:=l++List.replicate (n-l.length) 0
theorem kH {l:List UInt8} {n:Nat} (h:l.length≤n):(ke l n).length=n:=by unfold ke;simp;omega
def eB (s:aD):List UInt8:=ke (eI s++de (eI s)) 4096
theorem lG (s:aD):(eB s).length=4096:=kH (by rw[List.length_append,rG,cJ];decide)
theorem jm {a b:List UInt8} {n:Nat} (h:a.length=n):(a++b).take n=a:=by subst h;exact List.take_left
theorem jn {a b:List UInt8} {n:Nat} (h:a.length=n):(a++b).drop n=b:=by subst h;exact List.drop_left
def lm:List UInt8:=[107,101,121]
def dZ (epoch:Int) (key:List UInt8):List UInt8:=lm++beBytes 4 epoch.toNat++key
def fi (epoch:Int) (key:List UInt8):List UInt8:=ke (dZ epoch key++de (dZ epoch key)) 4096
theorem lH {epoch:Int} {key:List UInt8} (h:key.length=32):(fi epoch key).length=4096:=kH (by rw[List.length_append,cJ];unfold dZ lm;simp[beBytes_length,h])
theorem cL {a b:Bool} (h:a=b):Ending.returned (Value.bool a)=Ending.returned (Value.bool b):=by rw[h]
theorem oj {a b:Int} (h:a=b):Ending.returned (Value.int .i64 a)=Ending.returned (Value.int .i64 b):=by rw[h]
theorem cD (s:ByteArray):s.toList.isEmpty=decide (s.size=0):=by
 by_cases h:s.size=0
 ·rw[emptyText (s:=s) (by omega)];simp[h]
 ·rw[kG (s:=s) (by omega)];simp[h]
theorem bU (n m:Int) (w:World):
  Calls Tryz.prog 294 #[.int .i64 n, .int .i64 m] w fun e w'=>e= .returned (.bool (decide (0≤n)&&decide (n≤m)))∧w=w':=by
 go_enter Tryz.func294,Tryz.ntmps294
 go_wp2_with fail
 all_goals go_ret
 all_goals refine⟨cL ?_,rfl⟩
 all_goals simp
 all_goals omega
theorem sC (c:UInt8):eO c=false↔((c.toNat<97∨122<c.toNat)∧(c.toNat<48∨57<c.toNat)):=by
 unfold eO
 simp
 omega
theorem EK (l:List UInt8) (k:Nat) (c:UInt8) (hc:l[k]?=some c):(l.take (k+1)).all eO=((l.take k).all eO&&eO c):=by
 obtain⟨h1,rfl⟩:=List.getElem?_eq_some_iff.1 hc
 rw[List.take_succ_eq_append_getElem h1,List.all_append]
 simp
theorem Ih {l:List UInt8} {k:Nat} {c:UInt8} (hc:l[k]?=some c) (h:eO c=false):l.all eO=false:=by
 rw[List.all_eq_false]
 exact⟨c,List.mem_of_getElem? hc,by rw[h];decide⟩
theorem fc (s:ByteArray) (w:World) (hs:s.size≤1073741824):
  Calls Tryz.prog 109 #[.string s] w fun e w'=>e= .returned (.bool (dr s.data.toList))∧w=w':=by
 have hl:s.data.toList.length=s.size:=rfl
 have HL:=Lib.hid hl;clear hl
 by_cases c0:s.size=0
 ·have d0:=emptyText (s:=s) (by omega)
  have HD:=Lib.hid c0;clear c0
  go_enter Tryz.func109,Tryz.ntmps109
  go_wp2_with fail
  go_loop [6] (fun i=>i= .int .i64 0) (fun _=>0)
  case atStart=>rfl
  case round=>
   subst hrel
   have hz:(s.size:Int)≤0:=by have:=HD.out;omega
   go_wp2_with fail
   go_ret
   exact⟨cL (by unfold dr;rw[HL.out,HD.out];rfl),rfl⟩
 have d0:=kG (s:=s) (by omega)
 go_enter Tryz.func109,Tryz.ntmps109
 go_wp2_with fail
 go_loop [6] (fun i=>∃k:Nat,k≤s.size∧i= .int .i64 k∧(s.data.toList.take k).all eO=true) (fun i=>s.size-(intOf i).toNat)
 case atStart=>exact⟨0,by omega,rfl,rfl⟩
 case round=>
  obtain⟨k,hk,rfl,hall⟩:=hrel
  have HA:=Lib.hid hall;clear hall
  by_cases hlt:k<s.size
  ·have hlt':(k:Int)<s.size:=by omega
   obtain⟨c,hc⟩:∃c,s[k]=c:=⟨_,rfl⟩
   have hck:s.data.toList[k]?=some c:=by rw[List.getElem?_eq_getElem (by rw[HL.out];exact hlt),←hc];rfl
   have HC:=Lib.hid hck;clear hck
   have hc8:=c.toNat_lt
   go_wp2_with fail
   all_goals try(
    go_round
    case rel=>
     refine⟨k+1,by omega,by go_num, ?_⟩
     rw[EK _ _ _ HC.out,HA.out]
     simp only[Bool.true_and]
     cases hb:eO c with
     |true=>rfl
     |false=>rw[sC]at hb;exfalso;simp_all;omega
    case measure=>simp[intOf];omega)
   all_goals
    go_ret
    refine⟨cL ?_,rfl⟩
    have hno:eO c=false:=by rw[sC];simp_all;omega
    unfold dr
    rw[Ih HC.out hno]
    simp
  ·obtain rfl:k=s.size:=by omega
   go_wp2_with fail
   all_goals go_ret
   all_goals refine⟨cL ?_,rfl⟩
   all_goals
    have hall:=HA.out
    rw[List.take_of_length_le (by rw[HL.out];omega)]at hall
    unfold dr
    rw[hall,HL.out]
    rw[show decide ((s.size:Int)≤16)=decide (s.size≤16)from decide_eq_decide.2 (by omega),decide_eq_true (show 1≤s.size by omega)]
    simp
theorem Ii (epoch time count target till:Int) (root name:ByteArray) (w:World) (hname:name.size≤1073741824) (E1:Int) (hE1:wrap64 (epoch-1)=E1):
  Calls Tryz.prog 293 #[.agg #[.int .i64 1, .int .i64 epoch, .int .i64 time, .int .i64 count, .int .i64 target, .int .i64 till, .string root, .string name]] w
   fun e w'=>e= .returned (.tuple #[.agg #[.int .i64 0, .int .i64 0, .int .i64 0, .int .i64 0, .int .i64 target, .int .i64 till, .string ⟨#[]⟩, .string name], .bool ((decide (0≤count)&&decide (count≤4096))&&decide (root.size=32))])∧Below w.heap.size w w':=by
 have z3:((root.size:Int)==32)=decide (root.size=32):=by rw[Bool.eq_iff_iff];simp;omega
 go_enter Tryz.func293,Tryz.ntmps293
 go_wp2_with (first|(go_at_call 294;refine(bU _ _ _).mono ?_;rintro e w1 ⟨rfl,rfl⟩)|(go_at_call 109;refine(fc _ _ hname).mono ?_;rintro e w1 ⟨rfl,rfl⟩))
 all_goals go_region
 all_goals go_wp2_with fail
 all_goals(refine bodyPost_ret (v:= .tuple #[.agg #[.int .i64 0, .int .i64 0, .int .i64 0, .int .i64 0, .int .i64 target, .int .i64 till, .string ⟨#[]⟩, .string name], .bool ((decide (0≤count)&&decide (count≤4096))&&decide (root.size=32))]) ?_ rfl ⟨rfl, ?_⟩)
 all_goals first
  |(simp[results,Tryz.results293,go_sem];done)
  |(simp[results,Tryz.results293,go_sem];omega)
  |(simp[results,Tryz.results293,go_sem, *];done)
  |skip
 all_goals try(repeat(first|exact Below.refl _ _|assumption|(with_reducible refine Below.drew ?_)|(with_reducible refine Below.setCell ?_ ?_ _)|(with_reducible refine Below.alloc ?_ ?_ _)))
 all_goals try(simp;done)
 all_goals try(simp;omega)
theorem Ij (epoch time count target till:Int) (root name:ByteArray) (w:World) (hname:name.size≤1073741824) (E1:Int) (hE1:wrap64 (epoch-1)=E1):
  Calls Tryz.prog 293 #[.agg #[.int .i64 2, .int .i64 epoch, .int .i64 time, .int .i64 count, .int .i64 target, .int .i64 till, .string root, .string name]] w
   fun e w'=>e= .returned (.tuple #[.agg #[.int .i64 0, .int .i64 0, .int .i64 0, .int .i64 count, .int .i64 0, .int .i64 0, .string root, .string name], .bool ((decide (0≤till)&&decide (till≤1099511627776))&&(decide (0≤target)&&decide (target≤E1)))])∧Below w.heap.size w w':=by
 skip
 go_enter Tryz.func293,Tryz.ntmps293
 go_wp2_with (first|(go_at_call 294;refine(bU _ _ _).mono ?_;rintro e w1 ⟨rfl,rfl⟩)|(go_at_call 109;refine(fc _ _ hname).mono ?_;rintro e w1 ⟨rfl,rfl⟩))
 all_goals(go_in;go_wp2_with (first|(go_at_call 294;refine(bU _ _ _).mono ?_;rintro e w1 ⟨rfl,rfl⟩)|(go_at_call 109;refine(fc _ _ hname).mono ?_;rintro e w1 ⟨rfl,rfl⟩)))
 all_goals go_region
 all_goals go_wp2_with fail
 all_goals(refine bodyPost_ret (v:= .tuple #[.agg #[.int .i64 0, .int .i64 0, .int .i64 0, .int .i64 count, .int .i64 0, .int .i64 0, .string root, .string name], .bool ((decide (0≤till)&&decide (till≤1099511627776))&&(decide (0≤target)&&decide (target≤E1)))]) ?_ rfl ⟨rfl, ?_⟩)
 all_goals first
  |(simp[results,Tryz.results293,go_sem];done)
  |(simp[results,Tryz.results293,go_sem];omega)
  |(simp[results,Tryz.results293,go_sem, *];done)
  |skip
 all_goals try(repeat(first|exact Below.refl _ _|assumption|(with_reducible refine Below.drew ?_)|(with_reducible refine Below.setCell ?_ ?_ _)|(with_reducible refine Below.alloc ?_ ?_ _)))
 all_goals try(simp;done)
 all_goals try(simp;omega)
theorem Ik (epoch time count target till:Int) (root name:ByteArray) (w:World) (hname:name.size≤1073741824) (E1:Int) (hE1:wrap64 (epoch-1)=E1):
  Calls Tryz.prog 293 #[.agg #[.int .i64 5, .int .i64 epoch, .int .i64 time, .int .i64 count, .int .i64 target, .int .i64 till, .string root, .string name]] w
   fun e w'=>e= .returned (.tuple #[.agg #[.int .i64 0, .int .i64 0, .int .i64 0, .int .i64 count, .int .i64 0, .int .i64 0, .string root, .string name], .bool ((decide (0≤till)&&decide (till≤1099511627776))&&(decide (0≤target)&&decide (target≤E1)))])∧Below w.heap.size w w':=by
 skip
 go_enter Tryz.func293,Tryz.ntmps293
 go_wp2_with (first|(go_at_call 294;refine(bU _ _ _).mono ?_;rintro e w1 ⟨rfl,rfl⟩)|(go_at_call 109;refine(fc _ _ hname).mono ?_;rintro e w1 ⟨rfl,rfl⟩))
 all_goals(go_in;go_wp2_with (first|(go_at_call 294;refine(bU _ _ _).mono ?_;rintro e w1 ⟨rfl,rfl⟩)|(go_at_call 109;refine(fc _ _ hname).mono ?_;rintro e w1 ⟨rfl,rfl⟩)))
 all_goals go_region
 all_goals go_wp2_with fail
 all_goals(refine bodyPost_ret (v:= .tuple #[.agg #[.int .i64 0, .int .i64 0, .int .i64 0, .int .i64 count, .int .i64 0, .int .i64 0, .string root, .string name], .bool ((decide (0≤till)&&decide (till≤1099511627776))&&(decide (0≤target)&&decide (target≤E1)))]) ?_ rfl ⟨rfl, ?_⟩)
 all_goals first
  |(simp[results,Tryz.results293,go_sem];done)
  |(simp[results,Tryz.results293,go_sem];omega)
  |(simp[results,Tryz.results293,go_sem, *];done)
  |skip
 all_goals try(repeat(first|exact Below.refl _ _|assumption|(with_reducible refine Below.drew ?_)|(with_reducible refine Below.setCell ?_ ?_ _)|(with_reducible refine Below.alloc ?_ ?_ _)))
 all_goals try(simp;done)
 all_goals try(simp;omega)
theorem Il (epoch time count target till:Int) (root name:ByteArray) (w:World) (hname:name.size≤1073741824) (E1:Int) (hE1:wrap64 (epoch-1)=E1):
  Calls Tryz.prog 293 #[.agg #[.int .i64 3, .int .i64 epoch, .int .i64 time, .int .i64 count, .int .i64 target, .int .i64 till, .string root, .string name]] w
   fun e w'=>e= .returned (.tuple #[.agg #[.int .i64 0, .int .i64 0, .int .i64 0, .int .i64 count, .int .i64 0, .int .i64 till, .string root, .string ⟨#[]⟩], .bool ((decide (0≤target)&&decide (target≤E1))&&dr name.data.toList)])∧Below w.heap.size w w':=by
 skip
 go_enter Tryz.func293,Tryz.ntmps293
 go_wp2_with (first|(go_at_call 294;refine(bU _ _ _).mono ?_;rintro e w1 ⟨rfl,rfl⟩)|(go_at_call 109;refine(fc _ _ hname).mono ?_;rintro e w1 ⟨rfl,rfl⟩))
 all_goals(go_in;go_wp2_with (first|(go_at_call 294;refine(bU _ _ _).mono ?_;rintro e w1 ⟨rfl,rfl⟩)|(go_at_call 109;refine(fc _ _ hname).mono ?_;rintro e w1 ⟨rfl,rfl⟩)))
 all_goals go_region
 all_goals go_wp2_with fail
 all_goals(refine bodyPost_ret (v:= .tuple #[.agg #[.int .i64 0, .int .i64 0, .int .i64 0, .int .i64 count, .int .i64 0, .int .i64 till, .string root, .string ⟨#[]⟩], .bool ((decide (0≤target)&&decide (target≤E1))&&dr name.data.toList)]) ?_ rfl ⟨rfl, ?_⟩)
 all_goals first
  |(simp[results,Tryz.results293,go_sem];done)
  |(simp[results,Tryz.results293,go_sem];omega)
  |(simp[results,Tryz.results293,go_sem, *];done)
  |skip
 all_goals try(repeat(first|exact Below.refl _ _|assumption|(with_reducible refine Below.drew ?_)|(with_reducible refine Below.setCell ?_ ?_ _)|(with_reducible refine Below.alloc ?_ ?_ _)))
 all_goals try(simp;done)
 all_goals try(simp;omega)
theorem Im (epoch time count target till:Int) (root name:ByteArray) (w:World) (hname:name.size≤1073741824) (E1:Int) (hE1:wrap64 (epoch-1)=E1):
  Calls Tryz.prog 293 #[.agg #[.int .i64 4, .int .i64 epoch, .int .i64 time, .int .i64 count, .int .i64 target, .int .i64 till, .string root, .string name]] w
   fun e w'=>e= .returned (.tuple #[.agg #[.int .i64 0, .int .i64 0, .int .i64 0, .int .i64 count, .int .i64 target, .int .i64 till, .string root, .string ⟨#[]⟩], .bool (dr name.data.toList)])∧Below w.heap.size w w':=by
 skip
 go_enter Tryz.func293,Tryz.ntmps293
 go_wp2_with (first|(go_at_call 294;refine(bU _ _ _).mono ?_;rintro e w1 ⟨rfl,rfl⟩)|(go_at_call 109;refine(fc _ _ hname).mono ?_;rintro e w1 ⟨rfl,rfl⟩))
 all_goals go_region
 all_goals go_wp2_with fail
 all_goals(refine bodyPost_ret (v:= .tuple #[.agg #[.int .i64 0, .int .i64 0, .int .i64 0, .int .i64 count, .int .i64 target, .int .i64 till, .string root, .string ⟨#[]⟩], .bool (dr name.data.toList)]) ?_ rfl ⟨rfl, ?_⟩)
 all_goals first
  |(simp[results,Tryz.results293,go_sem];done)
  |(simp[results,Tryz.results293,go_sem];omega)
  |(simp[results,Tryz.results293,go_sem, *];done)
  |skip
 all_goals try(repeat(first|exact Below.refl _ _|assumption|(with_reducible refine Below.drew ?_)|(with_reducible refine Below.setCell ?_ ?_ _)|(with_reducible refine Below.alloc ?_ ?_ _)))
 all_goals try(simp;done)
 all_goals try(simp;omega)
theorem Io (kind epoch time count target till:Int) (root name:ByteArray) (w:World) (hname:name.size≤1073741824) (E1:Int) (hE1:wrap64 (epoch-1)=E1) (k1:¬kind=1) (k2:¬kind=2) (k5:¬kind=5) (k3:¬kind=3) (k4:¬kind=4):
  Calls Tryz.prog 293 #[.agg #[.int .i64 kind, .int .i64 epoch, .int .i64 time, .int .i64 count, .int .i64 target, .int .i64 till, .string root, .string name]] w
   fun e w'=>e= .returned (.tuple #[.agg #[.int .i64 0, .int .i64 0, .int .i64 0, .int .i64 count, .int .i64 target, .int .i64 till, .string root, .string name], .bool (false)])∧Below w.heap.size w w':=by
 skip
 go_enter Tryz.func293,Tryz.ntmps293
 go_wp2_with (first|(go_at_call 294;refine(bU _ _ _).mono ?_;rintro e w1 ⟨rfl,rfl⟩)|(go_at_call 109;refine(fc _ _ hname).mono ?_;rintro e w1 ⟨rfl,rfl⟩))
 all_goals go_region
 all_goals go_wp2_with fail
 all_goals(refine bodyPost_ret (v:= .tuple #[.agg #[.int .i64 0, .int .i64 0, .int .i64 0, .int .i64 count, .int .i64 target, .int .i64 till, .string root, .string name], .bool (false)]) ?_ rfl ⟨rfl, ?_⟩)
 all_goals first
  |(simp[results,Tryz.results293,go_sem];done)
  |(simp[results,Tryz.results293,go_sem];omega)
  |(simp[results,Tryz.results293,go_sem, *];done)
  |skip
 all_goals try(repeat(first|exact Below.refl _ _|assumption|(with_reducible refine Below.drew ?_)|(with_reducible refine Below.setCell ?_ ?_ _)|(with_reducible refine Below.alloc ?_ ?_ _)))
 all_goals try(simp;done)
 all_goals try(simp;omega)
end Go.Proofs.YtngiibgdgenidaaGreat
