/- Walks of package evolve. Walk of evolve.At, and the example of chapter 18. Walks of the documents' derive (chapter 04). Walks of the documents' Key, Long (chapter 04). Walks of the documents' chapter 18: Made, At, Data. Walks of octet.Get and the documents' Get, of any text. -/
import Derived.Test.YtgimkmclgjfddaaGreatQ5
import Derived.Test.YtgimkmclgjfddaaGreatQ2
import Derived.WalkMore
import Derived.Test.YtgimkmclgjfddaaGreatQ6
import Derived.Deep.RegionHeld
import Derived.Maps.RangeWalk
import Derived.WalkKit
import Derived.ProofKit
import Derived.Test.YtgimkmclgjfddaaGreatQ8
import Derived.Test.YtgimkmclgjfddaaGreatQ7
import Derived.OrdersHeld
import Derived.Deep.MidRow
set_option linter.unusedSimpArgs false
set_option linter.unusedVariables false
set_option maxRecDepth 100000
set_option maxHeartbeats 4000000
namespace Go.Proofs.YtgimkmclgjfddaaGreat
open Go Go.RowKit
def tK:ByteArray:=⟨#[115,101,97,108]⟩
def Ft:ByteArray:=⟨#[110,101,120,116]⟩
def IQ:ByteArray:=⟨#[109,97,99]⟩
def IZ:ByteArray:=⟨#[100,97,116,97]⟩
def eJ (key label:List UInt8) (xs:List Nat):List UInt8:=nn key (jP label xs)
def yK (root:List UInt8) (first:Nat):Nat→List UInt8
 |0=>eJ root [115,101,97,108] [first]
 |j+1=>eJ (yK root first j) [110,101,120,116] []
theorem dB (k l:List UInt8) (xs:List Nat):(eJ k l xs).length=32:=jO _ _
theorem qI (r:List UInt8) (f j:Nat):(yK r f j).length=32:=by cases j<;>exact dB _ _ _
theorem vX (n:Int) (w:World):
  Calls Tryz.prog 115 #[.int .i64 n] w fun e w'=>e= .returned (.bool (decide (0≤n∧n≤4294967295)))∧w=w':=by
 by_cases c1:0≤n
 ·by_cases c2:n≤4294967295
  ·rw[decide_eq_true (show 0≤n∧n≤4294967295 by omega)]
   go_enter Tryz.func115,Tryz.ntmps115
   go_wp2_with fail
   go_ret
   exact⟨rfl,rfl⟩
  ·have d2:4294967295<n:=by omega
   rw[decide_eq_false (show¬(0≤n∧n≤4294967295) by omega)]
   go_enter Tryz.func115,Tryz.ntmps115
   go_wp2_with fail
   go_ret
   exact⟨rfl,rfl⟩
 ·have d1:n<0:=by omega
  rw[decide_eq_false (show¬(0≤n∧n≤4294967295) by omega)]
  go_enter Tryz.func115,Tryz.ntmps115
  go_wp2_with fail
  go_ret
  exact⟨rfl,rfl⟩
theorem rr (key label:ByteArray) (v:Value) (xs:List Int) (w:World) (h:bc w v xs) (hok:cB label.data.toList xs=true) (hx:∀(j:Nat) (x:Int),xs[j]?=some x→x<9223372036854775808) (hxl:xs.length≤1073741824):
  Calls Tryz.prog 116 #[.string key, .string label,v] w fun e w'=>Ends (key.size=32) (eJ key.data.toList label.data.toList (xs.map Int.toNat)) 2 e∧Below w.heap.size w w':=by
 have Hx:=Lib.hid hx;clear hx
 have H:=Lib.hid h;clear h
 have HO:=Lib.hid hok;clear hok
 by_cases c1:key.size=32
 ·have d1:(key.size:Int)=32:=by omega
  go_enter Tryz.func116,Tryz.ntmps116
  go_wp2_with fail
  refine(ES key label v xs _ (by omega) H.out Hx.out hxl).mono ?_
  rintro e w1 ⟨⟨_,r,rfl,tr⟩|⟨hno,rfl⟩,hb1⟩
  ·go_wp2_with fail
   go_ret2
   exact⟨.inl ⟨c1,r,rfl,tr⟩,hb1⟩
  ·exact absurd (HO.out.symm.trans hno) (by decide)
 ·have d1:¬(key.size:Int)=32:=by omega
  go_enter Tryz.func116,Tryz.ntmps116
  go_wp2_with fail
  go_ret2
  exact⟨.inr ⟨c1,rfl⟩,Below.refl _ _⟩
theorem vY (key:ByteArray) (w:World):
  Calls Tryz.prog 259 #[.string key] w fun e w'=>Ends (key.size=32) (eJ key.data.toList [110,101,120,116] []) 2 e∧Below w.heap.size w w':=by
 go_enter Tryz.func259,Tryz.ntmps259
 go_wp2_with fail
 refine(rr key Ft _ [] _ (bc.nil _) (by decide) (fun j x h=>by simp at h) (by simp)).mono ?_
 rintro e w1 ⟨⟨h,r,rfl,tr⟩|⟨h,rfl⟩,hb1⟩
 ·go_wp2_with fail
  go_ret2
  exact⟨.inl ⟨h,r,rfl,tr⟩,hb1⟩
 ·go_wp2_with fail
  go_ret2
  exact⟨.inr ⟨h,rfl⟩,hb1⟩
theorem xZ (key:ByteArray) (w:World):
  Calls Tryz.prog 390 #[.string key] w fun e w'=>Ends (key.size=32) (eJ key.data.toList [109,97,99] []) 2 e∧Below w.heap.size w w':=by
 go_enter Tryz.func390,Tryz.ntmps390
 go_wp2_with fail
 refine(rr key IQ _ [] _ (bc.nil _) (by decide) (fun j x h=>by simp at h) (by simp)).mono ?_
 rintro e w1 ⟨⟨h,r,rfl,tr⟩|⟨h,rfl⟩,hb1⟩
 ·go_wp2_with fail
  go_ret2
  exact⟨.inl ⟨h,r,rfl,tr⟩,hb1⟩
 ·go_wp2_with fail
  go_ret2
  exact⟨.inr ⟨h,rfl⟩,hb1⟩
theorem vZ (root:ByteArray) (w:World):
  Calls Tryz.prog 55 #[.string root] w fun e w'=>Ends (root.size=32) (nX root.data.toList [100,97,116,97] 16) 2 e∧Below w.heap.size w w':=by
 by_cases c1:root.size=32
 ·have d1:(root.size:Int)=32:=by omega
  go_enter Tryz.func55,Tryz.ntmps55
  go_wp2_with fail
  refine(Dz root IZ 16 _ (by omega)).mono ?_
  rintro e w1 ⟨⟨_,_,_,r,rfl,tr⟩|⟨hno,rfl⟩,hb1⟩
  ·go_wp2_with fail
   go_ret2
   exact⟨.inl ⟨c1,r,rfl,tr⟩,hb1⟩
  ·rcases hno with h|h|h
   ·omega
   ·omega
   ·exact absurd h (by decide)
 ·have d1:¬(root.size:Int)=32:=by omega
  go_enter Tryz.func55,Tryz.ntmps55
  go_wp2_with fail
  go_ret2
  exact⟨.inr ⟨c1,rfl⟩,Below.refl _ _⟩
theorem tj (root:ByteArray) (n:Int) (w:World):
  Calls Tryz.prog 57 #[.string root, .int .i64 n] w fun e w'=>Ends (0≤n∧n≤4294967295∧root.size=32) (eJ root.data.toList [115,101,97,108] [n.toNat]) 2 e∧Below w.heap.size w w':=by
 by_cases c1:0≤n∧n≤4294967295
 ·go_enter Tryz.func57,Tryz.ntmps57
  go_wp2_with fail
  refine(vX n _).mono ?_
  rintro e w1 ⟨rfl,rfl⟩
  rw[decide_eq_true c1]
  go_wp2_with ((with_reducible refine aS 70 3 1 ?parts [.int .i64 n] (.int .i64 0) 1 8 (some 11) Tryz.underlying70 yH (by omega) (by omega) ?hgd ?ho ?hd ?hf ?_);(case hgd|ho|hd=>rfl);(case hf=>kernel_rfl);(intro g w2 l2 B2 e2 z2))
  refine(rr root tK _ [n] _ (bc.blk (xs:=[n]) B2 rfl 1) ?_ ?_ (by simp)).mono ?_
  ·simp[cB,tK];omega
  ·intro j x hx
   cases j with
   |zero=>simp at hx;omega
   |succ j=>simp at hx
  rintro e w3 ⟨⟨h,r,rfl,tr⟩|⟨h,rfl⟩,hb3⟩
  ·go_wp2_with fail
   go_ret2
   exact⟨.inl ⟨⟨c1.1,c1.2,h⟩,r,rfl,tr⟩,(e2.mono l2).trans (hb3.mono (by omega))⟩
  ·go_wp2_with fail
   go_ret2
   exact⟨.inr ⟨fun hh=>h hh.2.2,rfl⟩,(e2.mono l2).trans (hb3.mono (by omega))⟩
 ·go_enter Tryz.func57,Tryz.ntmps57
  go_wp2_with fail
  refine(vX n _).mono ?_
  rintro e w1 ⟨rfl,rfl⟩
  rw[decide_eq_false c1]
  go_wp2_with fail
  go_ret2
  exact⟨.inr ⟨fun hh=>c1 ⟨hh.1,hh.2.1⟩,rfl⟩,Below.refl _ _⟩
def AtEnd (root:List UInt8) (first epoch:Int) (e:Ending):Prop:=
 ((0≤epoch∧epoch≤4294967295∧first≤epoch∧0≤first∧root.length=32∧epoch-first≤4096)∧∃r,e= .returned (.tuple #[.string r, .int .i64 0])∧aj r (yK root first.toNat (epoch-first).toNat))∨
 ((epoch<0∨4294967295<epoch∨epoch<first∨first<0∨root.length≠32)∧e= .returned (.tuple #[.string ⟨#[]⟩, .int .i64 2]))∨
 ((0≤epoch∧epoch≤4294967295∧first≤epoch∧0≤first∧root.length=32∧4096<epoch-first)∧e= .returned (.tuple #[.string ⟨#[]⟩, .int .i64 6]))
theorem iY (s:ByteArray) (w:World) (hs:s.size≤1073741824):
  Calls Tryz.prog 302 #[.string s] w fun e w'=>∃r,e= .returned (.string r)∧aj r (cZ s.data.toList)∧Below w.heap.size w w':=by
 go_enter Tryz.func302,Tryz.ntmps302
 go_wp2_with fail
 refine(ge s.size 4 _ (by omega)).mono ?_
 rintro e w1 ⟨he,hb⟩
 obtain⟨r,rfl,tr⟩:=he.yes ⟨by omega,by omega,by omega,by show s.size<256^4;omega⟩
 clear he
 have hr:r.size≤4:=by rw[tr.size,beBytes_length];simp
 go_wp2_with fail
 go_ret
 exact⟨_,rfl,tr.append (aj.self s),hb⟩
theorem wH (c:UInt8) (n:Int) (hn:n=((c.toNat:Nat):Int)) (g:Nat) (w:World) (h:w.cell? ⟨g,0,none⟩=some (.int .u8 n)):
  Sem.run Tryz.prog (convert 205 9 (.slice (some ⟨g,0,none⟩) 1 1)) w= .ok (.string ⟨#[c]⟩) w:=by
 subst hn
 rw[run_convert_bytes_string w 205 9 5 _ _ _ Tryz.underlying205 Tryz.underlying5 Tryz.underlying9,ig w _ [c] 1 1 rfl ?_]
 ·rfl
 ·intro j v hv
  cases j with
  |zero=>simp[bytesV]at hv;subst hv;exact h
  |succ j=>simp[bytesV]at hv
theorem DL (label:ByteArray) (p:Option Addr) (c:Nat) (w:World):
  Calls Tryz.prog 199 #[.string label, .slice p 0 c] w fun e w'=>ke label.data.toList ([]:List Int) e∧Below w.heap.size w w':=by
 by_cases c1:label.size<1
 ·go_enter Tryz.func199,Tryz.ntmps199
  go_wp2_with fail
  go_ret2
  exact⟨.inr ⟨mI (show label.data.toList.length<1 from c1),rfl⟩,Below.refl _ _⟩
 by_cases c2:16<label.size
 ·have d1:(1:Int)≤label.size:=by omega
  have d2:(16:Int)<label.size:=by omega
  go_enter Tryz.func199,Tryz.ntmps199
  go_wp2_with fail
  go_ret2
  exact⟨.inr ⟨mJ (show 16<label.data.toList.length from c2),rfl⟩,Below.refl _ _⟩
 have d1:(1:Int)≤label.size:=by omega
 have d2:(label.size:Int)≤16:=by omega
 have hconv:=wH 0 (IntKind.u8.wrap 0) rfl
 have hT:(cZ label.data.toList).length≤20:=by rw[bg];show 4+label.size≤20;omega
 have HT:=Lib.hid hT;clear hT
 go_enter Tryz.func199,Tryz.ntmps199
 go_wp2_with fail
 go_cut [6]from 23 to 30 (fun s6 wc=>∃r,s6= .string r∧aj r (dS label.data.toList ([]:List Int) 0)∧Below w.heap.size w wc)
 case first=>
  go_region_with ((go_at_call 302;refine(iY label _ (by omega)).mono ?_;rintro e w2 ⟨r,rfl,tr,hb2⟩;have hr:r.size≤20:=(by rw[tr.size];exact HT.out);have hq:=fun(h:w.heap.size<_)=>hb2.cell (p:=⟨w.heap.size,0,none⟩) h))
  all_goals go_wp2_with fail
  all_goals go_meet
  case rel=>exact⟨_,rfl,(tr.append (aj.mk [0])).cast (by rw[fM];rfl),((Below.refl _ _).drew.trans (hb2.mono (by simp))).alloc (by have:=hb2.size;simp at this;omega) _⟩
  all_goals exact⟨_,rfl,(tr.append (aj.mk [0])).cast (by rw[fM];rfl),((Below.refl w.heap.size w).drew.alloc (by simp) _).trans (hb2.mono (by simp))⟩
 case rest=>
  clear hconv
  obtain⟨r,rfl,tr,hbel⟩:=hcut
  go_wp2_with fail
  go_loopw [6,7] (fun v i wr=>∃q,v= .string q∧i= .int .i64 0∧aj q (dS label.data.toList ([]:List Int) 0)∧Below w.heap.size w wr) (fun _ _ _=>0)
  case atStart=>exact⟨r,rfl,rfl,tr,hbel⟩
  case round=>
   clear tr hbel
   obtain⟨q,rfl,rfl,tq,hbel⟩:=hrel
   go_wp2_with fail
   go_ret2
   exact⟨.inl ⟨kY (show 1≤label.size by omega) (show label.size≤16 by omega) (by simp) (fun i x h=>by simp at h),q,rfl,tq.cast rfl⟩,hbel⟩
theorem DN (label:ByteArray) (g o c:Nat) (xs:List Int) (w:World) (hg:g<w.heap.size) (hc:∀(j:Nat) (x:Int),xs[j]?=some x→w.cell? ⟨g,o+j,none⟩=some (.int .i64 x)) (hx:∀(j:Nat) (x:Int),xs[j]?=some x→x<9223372036854775808) (hxl:xs.length≤1073741824):
  Calls Tryz.prog 199 #[.string label, .slice (some ⟨g,o,none⟩) xs.length c] w fun e w'=>ke label.data.toList xs e∧Below w.heap.size w w':=by
 have Hc:=Lib.hid hc;clear hc
 have Hx:∀(j:Nat) (x:Int),xs[j]?=some x→I64 x:=fun j x h=>⟨hx j x h⟩
 clear hx
 have HX:=Lib.hid Hx;clear Hx
 by_cases c1:label.size<1
 ·go_enter Tryz.func199,Tryz.ntmps199
  go_wp2_with fail
  go_ret2
  exact⟨.inr ⟨mI (show label.data.toList.length<1 from c1),rfl⟩,Below.refl _ _⟩
 by_cases c2:16<label.size
 ·have d1:(1:Int)≤label.size:=by omega
  have d2:(16:Int)<label.size:=by omega
  go_enter Tryz.func199,Tryz.ntmps199
  go_wp2_with fail
  go_ret2
  exact⟨.inr ⟨mJ (show 16<label.data.toList.length from c2),rfl⟩,Below.refl _ _⟩
 have d1:(1:Int)≤label.size:=by omega
 have d2:(label.size:Int)≤16:=by omega
 by_cases c3:8<xs.length
 ·have d3:(8:Int)<xs.length:=by omega
  go_enter Tryz.func199,Tryz.ntmps199
  go_wp2_with fail
  go_ret2
  exact⟨.inr ⟨vL c3,rfl⟩,Below.refl _ _⟩
 have d3:(xs.length:Int)≤8:=by omega
 obtain⟨b,Hb⟩:∃b:UInt8,Hid (b=UInt8.ofNat xs.length):=⟨_,rfl⟩
 have hconv:=wH b (IntKind.u8.wrap xs.length) (by rw[Hb.out,IntKind.wrap_u8];simp)
 have hT:(cZ label.data.toList).length≤20:=by rw[bg];show 4+label.size≤20;omega
 have HT:=Lib.hid hT;clear hT
 go_enter Tryz.func199,Tryz.ntmps199
 go_wp2_with fail
 go_cut [6]from 23 to 30 (fun s6 wc=>∃r,s6= .string r∧aj r (dS label.data.toList xs 0)∧Below w.heap.size w wc)
 case first=>
  go_region_with ((go_at_call 302;refine(iY label _ (by omega)).mono ?_;rintro e w2 ⟨r,rfl,tr,hb2⟩;have hr:r.size≤20:=(by rw[tr.size];exact HT.out);have hq:=fun(h:w.heap.size<_)=>hb2.cell (p:=⟨w.heap.size,0,none⟩) h))
  all_goals go_wp2_with fail
  all_goals go_meet
  case rel=>exact⟨_,rfl,(tr.append (aj.mk [b])).cast (by rw[fM,Hb.out]),((Below.refl _ _).drew.trans (hb2.mono (by simp))).alloc (by have:=hb2.size;simp at this;omega) _⟩
  all_goals exact⟨_,rfl,(tr.append (aj.mk [b])).cast (by rw[fM,Hb.out]),((Below.refl w.heap.size w).drew.alloc (by simp) _).trans (hb2.mono (by simp))⟩
 case rest=>
  clear hconv
  obtain⟨r,rfl,tr,hbel⟩:=hcut
  go_wp2_with fail
  go_loopw [6,7] (fun v i wr=>∃(k:Nat) (q:ByteArray),k≤xs.length∧v= .string q∧i= .int .i64 k∧aj q (dS label.data.toList xs k)∧Below w.heap.size w wr∧∀(i:Nat) (x:Int),i<k→xs[i]?=some x→0≤x) (fun _ i _=>xs.length-(intOf i).toNat)
  case atStart=>exact⟨0,r,by omega,rfl,rfl,tr,hbel,fun i x h=>by omega⟩
  case round=>
   clear tr hbel
   obtain⟨k,q,hk,rfl,rfl,tq,hbel,hpos⟩:=hrel
   have HP:=Lib.hid hpos;clear hpos
   have hq:q.size≤85:=by
    rw[tq.size]
    have h1:=jH label.data.toList xs k
    have h2:label.data.toList.length=label.size:=rfl
    omega
   by_cases hlt:k<xs.length
   ·have hlt':(k:Int)<xs.length:=by omega
    obtain⟨x,hxk⟩:∃x,xs[k]?=some x:=⟨_,List.getElem?_eq_getElem hlt⟩
    have ck:wr.cell? ⟨g,o+k,none⟩=some (.int .i64 x):=by
     rw[hbel.cell (by show g<w.heap.size;exact hg)];exact Hc.out k x hxk
    have h63:=HX.out k x hxk
    have HXk:=Lib.hid hxk;clear hxk
    by_cases hneg:x<0
    ·go_wp2_with fail
     refine(ge x 8 _ h63.lt).mono ?_
     rintro e w5 ⟨he,hb5⟩
     have he:=he.no (by omega)
     subst he
     go_wp2_with fail
     go_ret2
     exact⟨.inr ⟨vM HXk.out hneg,rfl⟩,hbel.trans (hb5.mono hbel.size)⟩
    ·obtain⟨n,hn⟩:∃n:Nat,x=(n:Int):=⟨x.toNat,by omega⟩
     subst hn
     go_wp2_with fail
     refine(ge n 8 _ h63.lt).mono ?_
     rintro e w5 ⟨he,hb5⟩
     obtain⟨p,rfl,tp⟩:=he.yes ⟨by omega,by omega,by omega,by have:=h63.lt;show n<256^8;omega⟩
     clear he
     have hp:p.size≤8:=by rw[tp.size,beBytes_length];simp
     go_wp2_with fail
     go_roundw
     case rel=>
      refine⟨k+1,_,by omega,rfl,by go_num, ?_,hbel.trans (hb5.mono hbel.size), ?_⟩
      ·rw[oY _ _ _ _ HXk.out,Int.toNat_natCast];exact tq.append tp
      ·intro i y hi hy
       by_cases e:i=k
       ·rw[e]at hy
        have h2:=Option.some.inj (HXk.out.symm.trans hy)
        omega
       ·exact HP.out i y (by omega) hy
     case measure=>simp[intOf];omega
   ·obtain rfl:k=xs.length:=by omega
    go_wp2_with fail
    go_ret2
    exact⟨.inl ⟨kY (show 1≤label.size by omega) (show label.size≤16 by omega) (by omega) (fun i x h=>HP.out i x (List.getElem?_eq_some_iff.1 h).1 h),q,rfl,tq.cast (qC _ _)⟩,hbel⟩
theorem qJ (label:ByteArray) (v:Value) (xs:List Int) (w:World) (h:bc w v xs) (hx:∀(j:Nat) (x:Int),xs[j]?=some x→x<9223372036854775808) (hxl:xs.length≤1073741824):
  Calls Tryz.prog 199 #[.string label,v] w fun e w'=>ke label.data.toList xs e∧Below w.heap.size w w':=by
 rcases h with⟨rfl,p,c,rfl⟩|⟨g,o,c,rfl,hg,hc⟩
 ·exact DL label p c w
 ·exact DN label g o c xs w hg hc hx hxl
def kf (key label:List UInt8) (xs:List Int) (e:Ending):Prop:=
 ((key.length=32∧cB label xs=true)∧∃r,e= .returned (.tuple #[.string r, .bool true])∧aj r (eJ key label (xs.map Int.toNat)))∨
 (¬(key.length=32∧cB label xs=true)∧e= .returned (.tuple #[.string ⟨#[]⟩, .bool false]))
theorem jW (key label:ByteArray) (v:Value) (xs:List Int) (w:World) (h:bc w v xs) (hx:∀(j:Nat) (x:Int),xs[j]?=some x→x<9223372036854775808) (hxl:xs.length≤1073741824):
  Calls Tryz.prog 107 #[.string key, .string label,v] w fun e w'=>kf key.data.toList label.data.toList xs e∧Below w.heap.size w w':=by
 have Hx:∀(j:Nat) (x:Int),xs[j]?=some x→I64 x:=fun j x h=>⟨hx j x h⟩
 clear hx
 have HX:=Lib.hid Hx;clear Hx
 have H:=Lib.hid h;clear h
 by_cases c1:key.size=32
 ·have d1:(key.size:Int)=32:=by omega
  go_enter Tryz.func107,Tryz.ntmps107
  go_wp2_with fail
  refine(qJ label v xs _ H.out (fun j x h=>(HX.out j x h).lt) hxl).mono ?_
  rintro e w1 ⟨⟨hok,r,rfl,tr⟩|⟨hno,rfl⟩,hb1⟩
  ·have hlen:=mK hok
   have hr:r.size≤85:=by rw[tr.size,ko,List.length_map];omega
   have HK:=Lib.hid hok;clear hok hlen
   go_wp2_with fail
   refine(rZ key r _ (by omega) (by omega)).mono ?_
   rintro e w2 ⟨q,rfl,tq,hb2⟩
   go_wp2_with fail
   go_ret2
   exact⟨.inl ⟨⟨c1,HK.out⟩,q,rfl,tq.cast (by rw[tr];rfl)⟩,hb1.trans (hb2.mono hb1.size)⟩
  ·have HN:=Lib.hid hno;clear hno
   go_wp2_with fail
   go_ret2
   exact⟨.inr ⟨fun hh=>by rw[HN.out]at hh;exact absurd hh.2 (by decide),rfl⟩,hb1⟩
 ·have d1:¬(key.size:Int)=32:=by omega
  go_enter Tryz.func107,Tryz.ntmps107
  go_wp2_with fail
  refine(qJ label v xs _ H.out (fun j x h=>(HX.out j x h).lt) hxl).mono ?_
  rintro e w1 ⟨⟨hok,r,rfl,tr⟩|⟨hno,rfl⟩,hb1⟩
  ·have HK:=Lib.hid hok;clear hok
   go_wp2_with fail
   go_ret2
   exact⟨.inr ⟨fun hh=>c1 hh.1,rfl⟩,hb1⟩
  ·have HN:=Lib.hid hno;clear hno
   go_wp2_with fail
   go_ret2
   exact⟨.inr ⟨fun hh=>c1 hh.1,rfl⟩,hb1⟩
theorem yi (l:List UInt8) (a:Nat):l.foldl (fun n b=>256*n+b.toNat) a=a*256^l.length+aR l:=by
 induction l generalizing a with
 |nil=>simp[aR]
 |cons b r ih=>
  unfold aR
  rw[List.foldl_cons,ih,List.foldl_cons,ih (256*0+b.toNat),List.length_cons,Nat.pow_succ,Nat.add_mul]
  rw[Nat.mul_zero,Nat.zero_add,show 256*a*256^r.length=a*(256^r.length*256) by rw[Nat.mul_comm 256 a,Nat.mul_assoc,Nat.mul_comm 256]]
  omega
theorem AA (b:UInt8) (r:List UInt8):aR (b::r)=b.toNat*256^r.length+aR r:=by
 unfold aR
 rw[List.foldl_cons,yi]
 simp[aR]
theorem qK {l:List UInt8} {c:UInt8} {n:Nat} (hc:l[0]?=some c) (hn:l.length=n):c.toNat*256^(n-1)≤aR l∧aR l<(c.toNat+1)*256^(n-1):=by
 subst hn
 cases l with
 |nil=>simp at hc
 |cons b r=>
  simp at hc
  subst hc
  rw[AA]
  have:=gg r
  simp only[List.length_cons,Nat.add_sub_cancel,Nat.add_mul]
  omega
theorem DO (x b:Nat) (hx:x<36028797018963968) (hb:b<256):bits BinOp.or IntKind.i64 ((x:Int)*256) ((b:Nat):Int)=((256*x+b:Nat):Int):=by
 rw[show(x:Int)*256=((x*256:Nat):Int) by simp,iT _ _ (by omega) (by omega)]
 have:=Nat.two_pow_add_eq_or_of_lt (i:=8) (b:=b) (by omega) x
 rw[show x*256=2^8*x by omega,←this]
theorem ix (s:ByteArray) (w:World):
  Calls Tryz.prog 96 #[.string s] w fun e w'=>ID s.data.toList e∧w=w':=by
 have hl:s.data.toList.length=s.size:=rfl
 have HL:=Lib.hid hl;clear hl
 by_cases c1:s.size<1
 ·have d1:=emptyText c1
  have d0:(s.size:Int)<1:=by omega
  go_enter Tryz.func96,Tryz.ntmps96
  go_wp2_with fail
  go_ret2
  exact⟨.inr ⟨by rw[HL.out];omega,rfl⟩,rfl⟩
 have d1:=kC (s:=s) (by omega)
 by_cases c2:8<s.size
 ·have d2:(8:Int)<s.size:=by omega
  go_enter Tryz.func96,Tryz.ntmps96
  go_wp2_with fail
  go_ret2
  exact⟨.inr ⟨by rw[HL.out];omega,rfl⟩,rfl⟩
 have d2:(s.size:Int)≤8:=by omega
 have h0:0<s.size:=by omega
 by_cases c3:s.size=8∧127<s[0].toNat
 ·obtain⟨c4,c5⟩:=c3
  have d4:(s.size:Int)=8:=by omega
  have d3:(127:Int)<(s[0].toNat:Int):=by omega
  have hbig:¬aR s.data.toList<9223372036854775808:=by
   have:=(qK (l:=s.data.toList) (c:=s[0]) (by rw[List.getElem?_eq_getElem (by rw[HL.out];exact h0)];rfl) (HL.out.trans c4)).1
   omega
  have HB:=Lib.hid hbig;clear hbig
  go_enter Tryz.func96,Tryz.ntmps96
  go_wp2_with fail
  go_ret2
  exact⟨.inr ⟨fun h=>HB.out h.2.2,rfl⟩,rfl⟩
 have hok:∀k,aR (s.data.toList.take k)<9223372036854775808:=by
  intro k
  refine Nat.lt_of_le_of_lt (Ar _ k) ?_
  by_cases c4:s.size=8
  ·have h1:s[0].toNat≤127:=by omega
   have:=(qK (l:=s.data.toList) (c:=s[0]) (by rw[List.getElem?_eq_getElem (by rw[HL.out];exact h0)];rfl) (HL.out.trans c4)).2
   omega
  ·have h1:=gg s.data.toList
   rw[HL.out]at h1
   exact Nat.lt_trans h1 (Nat.lt_of_le_of_lt (Nat.pow_le_pow_right (by omega) (show s.size≤7 by omega)) (by omega))
 have HK:=Lib.hid hok;clear hok
 by_cases c4:s.size=8
 ·have d4:(s.size:Int)=8:=by omega
  obtain⟨b0,hb0⟩:∃b0,s[0]=b0:=⟨_,rfl⟩
  rw[hb0]at c3
  have d3:(b0.toNat:Int)≤127:=by omega
  clear c3 d2
  go_enter Tryz.func96,Tryz.ntmps96
  go_wp2_with fail
  clear hb0 d3
  go_loopw [4,25] (fun a i wr=>∃k:Nat,k≤8∧i= .int .i64 k∧a= .int .i64 ((aR (s.data.toList.take k):Nat):Int)∧w=wr) (fun a i _=>8-(intOf i).toNat)
  case atStart=>exact⟨0,by omega,rfl,rfl,rfl⟩
  case round=>
   obtain⟨k,hk,rfl,rfl,rfl⟩:=hrel
   obtain⟨x,Hx⟩:∃x,Hid (x=aR (s.data.toList.take k)):=⟨_,rfl⟩
   rw[←Hx.out]
   by_cases hlt:k<8
   ·have hlt':(k:Int)<8:=by omega
    have hks:k<s.size:=by omega
    have e1:=iS s.data.toList k (by rw[HL.out];exact hks)
    have e3:s.data.toList[k]'(by rw[HL.out];exact hks)=s[k]:=rfl
    rw[e3,←Hx.out]at e1
    have e2:=HK.out (k+1)
    rw[e1]at e2
    have E1:=Lib.hid e1;clear e1 e3
    have hb:=s[k].toNat_lt
    have x1:(x:Int)<36028797018963968:=by omega
    have x2:256*(x:Int)+(s[k].toNat:Int)<9223372036854775808:=by omega
    go_wp2_with fail
    go_roundw
    case rel=>
     refine⟨k+1,by omega,by go_num, ?_,by trivial⟩
     rw[E1.out]
     rw[DO x _ (by omega) (by omega)]
    case measure=>simp[intOf];omega
   ·obtain rfl:k=8:=by omega
    have e4:Hid (x=aR s.data.toList):=by show x= _;rw[Hx.out,List.take_of_length_le (by rw[HL.out];omega)]
    have e5:x<9223372036854775808:=by have:=HK.out 8;rw[←Hx.out]at this;exact this
    have E5:=Lib.hid e5;clear e5
    go_wp2_with fail
    go_ret2
    refine⟨.inl ⟨⟨by rw[HL.out];omega,by rw[HL.out];omega,by rw[←e4.out];exact E5.out⟩, ?_⟩,rfl⟩
    rw[←e4.out];rfl
 ·have d4:(s.size:Int)≤7:=by omega
  have d5:¬(s.size:Int)=8:=by omega
  clear c3 d2
  go_enter Tryz.func96,Tryz.ntmps96
  go_wp2_with fail
  clear d5
  go_loopw [4,25] (fun a i wr=>∃k:Nat,k≤s.size∧i= .int .i64 k∧a= .int .i64 ((aR (s.data.toList.take k):Nat):Int)∧w=wr) (fun a i _=>8-(intOf i).toNat)
  case atStart=>exact⟨0,by omega,rfl,rfl,rfl⟩
  case round=>
   obtain⟨k,hk,rfl,rfl,rfl⟩:=hrel
   obtain⟨x,Hx⟩:∃x,Hid (x=aR (s.data.toList.take k)):=⟨_,rfl⟩
   rw[←Hx.out]
   by_cases hlt:k<s.size
   ·have hlt':(k:Int)<s.size:=by omega
    have hks:k<s.size:=by omega
    have e1:=iS s.data.toList k (by rw[HL.out];exact hks)
    have e3:s.data.toList[k]'(by rw[HL.out];exact hks)=s[k]:=rfl
    rw[e3,←Hx.out]at e1
    have e2:=HK.out (k+1)
    rw[e1]at e2
    have E1:=Lib.hid e1;clear e1 e3
    have hb:=s[k].toNat_lt
    have x1:(x:Int)<36028797018963968:=by omega
    have x2:256*(x:Int)+(s[k].toNat:Int)<9223372036854775808:=by omega
    go_wp2_with fail
    go_roundw
    case rel=>
     refine⟨k+1,by omega,by go_num, ?_,by trivial⟩
     rw[E1.out]
     rw[DO x _ (by omega) (by omega)]
    case measure=>simp[intOf];omega
   ·obtain rfl:k=s.size:=by omega
    have e4:Hid (x=aR s.data.toList):=by show x= _;rw[Hx.out,List.take_of_length_le (by rw[HL.out];omega)]
    have e5:x<9223372036854775808:=by have:=HK.out s.size;rw[←Hx.out]at this;exact this
    have E5:=Lib.hid e5;clear e5
    go_wp2_with fail
    go_ret2
    refine⟨.inl ⟨⟨by rw[HL.out];omega,by rw[HL.out];omega,by rw[←e4.out];exact E5.out⟩, ?_⟩,rfl⟩
    rw[←e4.out];rfl
theorem mX (w n:Nat) (h:n<256^w):aR (beBytes w n)=n:=by
 induction w generalizing n with
 |zero=>simp at h;subst h;rfl
 |succ w ih=>
  unfold beBytes
  rw[mL,ih (n/256) (by rw[Nat.pow_succ]at h;omega)]
  have:(UInt8.ofNat (n % 256)).toNat=n % 256:=by simp[UInt8.toNat_ofNat']
  rw[this]
  omega
theorem GR {l:List UInt8} {w:Nat} (h:l.length=w+1):∃(m:List UInt8) (b:UInt8),l=m++[b]∧m.length=w:=by
 refine⟨l.dropLast,l.getLast (by intro e;rw[e]at h;simp at h),(List.dropLast_concat_getLast _).symm,by rw[List.length_dropLast];omega⟩
theorem dF:∀(w:Nat) (l:List UInt8),l.length=w→beBytes w (aR l)=l:=by
 intro w
 induction w with
 |zero=>intro l h;rw[List.length_eq_zero_iff]at h;subst h;rfl
 |succ w ih=>
  intro l h
  obtain⟨m,b,rfl,hm⟩:=GR h
  have hb:=b.toNat_lt
  unfold beBytes
  rw[mL,show(256*aR m+b.toNat)/256=aR m by omega,show(256*aR m+b.toNat) % 256=b.toNat by omega,ih m hm]
  simp
def dZ (l:List UInt8):Option (List UInt8×List UInt8):=
 if l.length<4∨l.length-4<aR (l.take 4)then none else some ((l.drop 4).take (aR (l.take 4)),(l.drop 4).drop (aR (l.take 4)))
theorem nQ {l t s:List UInt8} (h:dZ l=some (t,s)):l=cZ t++s∧t.length<4294967296:=by
 unfold dZ at h
 split at h
 ·cases h
 ·next hc=>
  injection h with h
  injection h with h1 h2
  have hlt:=gg (l.take 4)
  have hl4:(l.take 4).length=4:=by rw[List.length_take];omega
  rw[hl4]at hlt
  have htl:t.length=aR (l.take 4):=by rw[←h1,List.length_take,List.length_drop];omega
  refine⟨?_,by rw[htl];simpa using hlt⟩
  unfold cZ
  rw[htl,dF 4 _ hl4,←h1,←h2,List.append_assoc,List.take_append_drop,List.take_append_drop]
theorem mO {l t s:List UInt8} (h:dZ l=some (t,s)):t.length≤l.length∧s.length≤l.length:=by
 rw[(nQ h).1]
 unfold cZ
 simp
 omega
def lh (l:List UInt8):Bool:=decide (1≤l.length)&&decide (l.length≤8)&&decide (aR l<9223372036854775808)
theorem li {l:List UInt8}:lh l=true↔(1≤l.length∧l.length≤8∧aR l<9223372036854775808):=by simp[lh,and_assoc]
def bB:List Nat→List UInt8→Option (List Int)
 |[],_=>some []
 |w::ws,l=>if lh (l.take w)then(bB ws (l.drop w)).map (((aR (l.take w):Nat):Int)::·)else none
structure ay where
 blocks:Int
 lbas:Int
 first:Int
deriving DecidableEq
def ay.cells (g:ay):List Value:=[.int .i64 g.blocks, .int .i64 g.lbas, .int .i64 g.first]
def ay.v (g:ay):Value:= .agg #[.int .i64 g.blocks, .int .i64 g.lbas, .int .i64 g.first]
def ay.zero:ay:=⟨0,0,0⟩
def tM (g:ay):Bool:=decide (8≤g.blocks)&&decide (g.blocks≤1024)&&decide (1≤g.lbas)&&decide (g.lbas≤4096)&&decide (0≤g.first)&&decide (g.first≤4294967295)
structure cM (g:ay):Prop where
 b0:8≤g.blocks
 b1:g.blocks≤1024
 l0:1≤g.lbas
 l1:g.lbas≤4096
 f0:0≤g.first
 f1:g.first<4294967296
theorem se {g:ay}:tM g=true↔cM g:=by
 unfold tM
 simp only[Bool.and_eq_true,decide_eq_true_eq]
 exact⟨fun⟨⟨⟨⟨⟨h1,h2⟩,h3⟩,h4⟩,h5⟩,h6⟩=>⟨h1,h2,h3,h4,h5,by omega⟩,fun h=>⟨⟨⟨⟨⟨h.b0,h.b1⟩,h.l0⟩,h.l1⟩,h.f0⟩,by have:=h.f1;omega⟩⟩
def iZ (g:ay):List UInt8:=beBytes 4 g.blocks.toNat++beBytes 4 g.lbas.toNat++beBytes 4 g.first.toNat
theorem gR (g:ay):(iZ g).length=12:=by unfold iZ;simp[beBytes_length]
structure aE where
 gen:Int
 tail:Int
 epoch:Int
 clock:Int
 geo:ay
deriving DecidableEq
def aE.cells (s:aE):List Value:=[.int .i64 s.gen, .int .i64 s.tail, .int .i64 s.epoch, .int .i64 s.clock, .int .i64 s.geo.blocks, .int .i64 s.geo.lbas, .int .i64 s.geo.first]
def aE.v (s:aE):Value:= .agg #[.int .i64 s.gen, .int .i64 s.tail, .int .i64 s.epoch, .int .i64 s.clock, .int .i64 s.geo.blocks, .int .i64 s.geo.lbas, .int .i64 s.geo.first]
def aE.zero:aE:=⟨0,0,0,0, .zero⟩
structure fS (s:aE):Prop where
 geo:cM s.geo
 g0:1≤s.gen
 g1:s.gen≤1152921504606846976
 t0:0≤s.tail
 t1:s.tail≤s.geo.blocks-4
 e0:s.geo.first≤s.epoch
 e1:s.epoch<4294967296
 c0:0≤s.clock
 c1:s.clock≤1099511627776
def jX:List UInt8:=[107,101,101,112,115,97,107,101,49]
def en (s:aE):List UInt8:=jX++(beBytes 8 s.gen.toNat++beBytes 4 s.tail.toNat++beBytes 4 s.epoch.toNat++beBytes 8 s.clock.toNat)++iZ s.geo
theorem rx (s:aE):(en s).length=45:=by unfold en jX;simp[beBytes_length,gR]
def jY (l:List UInt8) (n:Nat):List UInt8:=l++List.replicate (n-l.length) 0
theorem kG {l:List UInt8} {n:Nat} (h:l.length≤n):(jY l n).length=n:=by unfold jY;simp;omega
def eb (s:aE):List UInt8:=jY (en s++dm (en s)) 4096
theorem lB (s:aE):(eb s).length=4096:=kG (by rw[List.length_append,rx,bK];decide)
theorem jh {a b:List UInt8} {n:Nat} (h:a.length=n):(a++b).take n=a:=by subst h;exact List.take_left
theorem jj {a b:List UInt8} {n:Nat} (h:a.length=n):(a++b).drop n=b:=by subst h;exact List.drop_left
def lj:List UInt8:=[107,101,121]
def dV (epoch:Int) (key:List UInt8):List UInt8:=lj++beBytes 4 epoch.toNat++key
def eX (epoch:Int) (key:List UInt8):List UInt8:=jY (dV epoch key++dm (dV epoch key)) 4096
theorem lC {epoch:Int} {key:List UInt8} (h:key.length=32):(eX epoch key).length=4096:=kG (by rw[List.length_append,bK];unfold dV lj;simp[beBytes_length,h])
section
variable {P:Program} {ops:Array Oper} {Q:Exit→Act→World→Prop} {md:Region.Mode} {S:World→Prop} {fuel:Nat} {l:Array Bool} {a a':Act} {w:World} {o:Oper}
theorem hp (i:Nat) {v:Value} (h:wpAnyH P md ops Q S fuel (l.setIfInBounds i true) a' w) (hi:ops[i]?=some o:=by rfl) (hs:Region.noSelect ops=true:=by kernel_rfl)
  (hf:Region.free md ops l i=true:=by kernel_rfl) (hr:(Region.ready md ops l).contains i=true:=by kernel_rfl) (hg:Region.wanted o (yielded ops a.tmps)=true:=by rfl)
  (hy:∀w,S w→(execOp a.eval o).run P w= .ok (.value v) w:=by intro w hSw;(try dsimp only at hSw);go_simp;first|done|with_reducible rfl)
  (hS:S w:=by assumption) (hQ:∀c a w,Q (.panic c) (a.put o.dst v) w→Q (.panic c) a w:=by exact fun _ _ _ h=>h)
  (ha:a.put o.dst v=a':=by conv=>lhs;simp only[Act.put,Array.getInternal_eq_getElem,List.getElem_toArray,List.getElem_cons_succ,List.getElem_cons_zero,List.setIfInBounds_toArray,List.set_cons_zero,List.set_cons_succ]):
  wpAnyH P md ops Q S (fuel+1) l a w:=
 wpAnyH_take hi hs hf hr hQ (.inl ⟨hg,hy⟩) hS (ha ▸ h)
theorem hl (i:Nat) (ty:TypeId) (b off:Nat) (cs:List Value) {x:Operand} {d:TypeDesc} (hR:∀w,S w→w.rangeAt b off cs) (hu:P.underlying ty=some d) (hz:(P.info? ty).map (·.size)=some cs.length)
  (h:wpAnyH P md ops Q S fuel (l.setIfInBounds i true) a' w) (hi:ops[i]?=some o:=by rfl) (hs:Region.noSelect ops=true:=by kernel_rfl)
  (hf:Region.free md ops l i=true:=by kernel_rfl) (hr:(Region.ready md ops l).contains i=true:=by kernel_rfl) (hg:Region.wanted o (yielded ops a.tmps)=true:=by rfl)
  (ho:o.op= .load ty x:=by rfl) (hx:a.eval x= .pointer (some ⟨b,off,none⟩):=by rfl) (hd:d.isRow=true:=by rfl)
  (hS:S w:=by assumption) (hQ:∀c a w,Q (.panic c) (a.put o.dst (.agg cs.toArray)) w→Q (.panic c) a w:=by exact fun _ _ _ h=>h)
  (ha:a.put o.dst (.agg cs.toArray)=a':=by conv=>lhs;simp only[Act.put,Array.getInternal_eq_getElem,List.getElem_toArray,List.getElem_cons_succ,List.getElem_cons_zero,List.setIfInBounds_toArray,List.set_cons_zero,List.set_cons_succ]):wpAnyH P md ops Q S (fuel+1) l a w:=
 wpAnyH_take hi hs hf hr hQ (yieldsIf_load_mid hg ty x ho b off hx cs d hR hu hd hz) hS (ha ▸ h)
theorem hu (i:Nat) (ty:TypeId) (cells:List Value) {parts:Array (Nat×Operand)} (hB:P.built ty (parts.map fun(j,x)=>(j,a.eval x)).toList=some cells.toArray)
  (h:wpAnyH P md ops Q S fuel (l.setIfInBounds i true) a' w) (hi:ops[i]?=some o:=by rfl) (hs:Region.noSelect ops=true:=by kernel_rfl)
  (hf:Region.free md ops l i=true:=by kernel_rfl) (hr:(Region.ready md ops l).contains i=true:=by kernel_rfl) (hg:Region.wanted o (yielded ops a.tmps)=true:=by rfl)
  (ho:o.op= .build ty parts:=by rfl)
  (hS:S w:=by assumption) (hQ:∀c a w,Q (.panic c) (a.put o.dst (.agg cells.toArray)) w→Q (.panic c) a w:=by exact fun _ _ _ h=>h)
  (ha:a.put o.dst (.agg cells.toArray)=a':=by conv=>lhs;simp only[Act.put,Array.getInternal_eq_getElem,List.getElem_toArray,List.getElem_cons_succ,List.getElem_cons_zero,List.setIfInBounds_toArray,List.set_cons_zero,List.set_cons_succ]):wpAnyH P md ops Q S (fuel+1) l a w:=
 wpAnyH_take hi hs hf hr hQ (.inl ⟨hg,fun w _=>by
  unfold execOp
  simp only[ho,Sem.run_bind,run_build w ty _ cells.toArray hB,Result.andThen_ok,Sem.run_pure]⟩) hS (ha ▸ h)
theorem hn (i:Nat) (h:wpAnyH P md ops Q S fuel (l.setIfInBounds i true) a' w) (hi:ops[i]?=some o:=by rfl) (hs:Region.noSelect ops=true:=by kernel_rfl)
  (hf:Region.free md ops l i=true:=by kernel_rfl) (hr:(Region.ready md ops l).contains i=true:=by kernel_rfl) (hg:Region.wanted o (yielded ops a.tmps)=false:=by rfl)
  (hS:S w:=by assumption) (hQ:∀c a w,Q (.panic c) (a.put o.dst undef) w→Q (.panic c) a w:=by exact fun _ _ _ h=>h)
  (ha:a.put o.dst undef=a':=by conv=>lhs;simp only[Act.put,Array.getInternal_eq_getElem,List.getElem_toArray,List.getElem_cons_succ,List.getElem_cons_zero,List.setIfInBounds_toArray,List.set_cons_zero,List.set_cons_succ]):wpAnyH P md ops Q S (fuel+1) l a w:=
 wpAnyH_take hi hs hf hr hQ (.inr ⟨hg,rfl⟩) hS (ha ▸ h)
theorem hc (i:Nat) (h:∀K':Act→World→Prop,Shut (∀a w,S w→(S w→wpAnyH P md ops Q S fuel (l.setIfInBounds i true) a w)→K' a w)→if Region.wanted o (yielded ops a.tmps)=true then Oper.wp P o a w K' Q else K' (a.put o.dst undef) w)
  (ho:ops[i]?=some o:=by conv=>lhs;simp only[List.getElem?_toArray,List.getElem?_cons_succ,List.getElem?_cons_zero]) (hr:Region.ready md ops l=[i]:=by kernel_rfl):wpAnyH P md ops Q S (fuel+1) l a w:=
 wpAnyH_ready hr (by simp) (AllReadyH.cons ho h AllReadyH.nil)
theorem wI {o':Oper} (i j:Nat) (h:∀K':Act→World→Prop,Shut (∀a w,S w→(S w→wpAnyH P md ops Q S fuel (l.setIfInBounds i true) a w)→K' a w)→if Region.wanted o (yielded ops a.tmps)=true then Oper.wp P o a w K' Q else K' (a.put o.dst undef) w)
  (h':∀K':Act→World→Prop,Shut (∀a w,S w→(S w→wpAnyH P md ops Q S fuel (l.setIfInBounds j true) a w)→K' a w)→if Region.wanted o' (yielded ops a.tmps)=true then Oper.wp P o' a w K' Q else K' (a.put o'.dst undef) w)
  (ho:ops[i]?=some o:=by conv=>lhs;simp only[List.getElem?_toArray,List.getElem?_cons_succ,List.getElem?_cons_zero]) (ho':ops[j]?=some o':=by conv=>lhs;simp only[List.getElem?_toArray,List.getElem?_cons_succ,List.getElem?_cons_zero]) (hr:Region.ready md ops l=[i,j]:=by kernel_rfl):wpAnyH P md ops Q S (fuel+1) l a w:=
 wpAnyH_ready hr (by simp) (AllReadyH.cons ho h (AllReadyH.cons ho' h' AllReadyH.nil))
theorem hd (h:Q .normal a w) (hr:Region.ready md ops l=[]:=by kernel_rfl):wpAnyH P md ops Q S fuel l a w:=wpAnyH_done hr h _
theorem hb (S:World→Prop) {id:Nat} (hS:S w.drew) (h:S w.drew→wpAnyH P .any ops Q S ops.size (Array.replicate ops.size false) a w.drew) (hm:P.follows .mixedOrders=true:=by kernel_rfl):(Code.region id ops true).wp P Q a w:=
 wp_region_held_drew hm hS h
end
theorem bu {g:ay}:(Tryz.prog.info? 69).map (·.size)=some g.cells.length:=by kernel_rfl
theorem yL (g:ay):∀v∈g.cells,v.oneCell'=true:=by intro v hv;simp[ay.cells]at hv;rcases hv with rfl|rfl|rfl<;>rfl
theorem eo (g:ay) (w:World) (hg:cM g):
  Calls Tryz.prog 56 #[g.v] w fun e w'=>e= .returned (.int .i64 0)∧Below w.heap.size w w':=by
 obtain⟨blocks,lbas,first⟩:=g
 obtain⟨h1,h2,h3,h4,h5,h6⟩:=hg
 simp only at h1 h2 h3 h4 h5 h6
 have h6':¬(4294967295:Int)<first:=by omega
 clear h6
 go_enter Tryz.func56,Tryz.ntmps56
 go_wp2_with (first
  |((with_reducible refine ag 69 (.tmp 0) (ay.cells ⟨blocks,lbas,first⟩) (some 1) ?hgd ?ho ?hd ?hx ?_);(case hgd|ho|hd|hx=>rfl);(intro b1 w1 l1 B1 e1 z1);(have c0:=B1.cell (i:=0) rfl);(have c1:=B1.cell (i:=1) rfl);(have c2:=B1.cell (i:=2) rfl))
  |fail)
 go_ret
 exact⟨rfl,e1.mono l1⟩
theorem gZ (g:ay) (w:World) (hg:cM g):
  Calls Tryz.prog 254 #[g.v] w fun e w'=>e= .returned (.int .i64 (g.blocks-4))∧Below w.heap.size w w':=by
 have h1:=hg.b0
 have h2:=hg.b1
 go_enter Tryz.func254,Tryz.ntmps254
 go_wp2_with (first
  |((with_reducible refine ag 69 (.tmp 0) g.cells (some 1) ?hgd ?ho ?hd ?hx ?_);(case hgd|ho|hd|hx=>rfl);(intro b1 w1 l1 B1 e1 z1))
  |((with_reducible refine ae 69 (.tmp 1) b1 0 g.cells _ (some 3) B1.range Tryz.underlying69 rfl bu ?hg ?ho ?hds ?hx ?_);(case ho|hg|hds|hx=>rfl))
  |fail)
 refine(eo g _ hg).mono ?_
 rintro e w2 ⟨rfl,hb2⟩
 have c0:=(B1.below hb2 z1).cell (i:=0) rfl
 go_wp2_with fail
 go_ret
 exact⟨rfl,(e1.mono l1).trans (hb2.mono (Nat.le_trans l1 (Nat.le_of_lt z1)))⟩
theorem ry (g:ay) (i:Int) (w:World) (hg:cM g) (h0:0≤i) (h1:i<g.blocks-4):
  Calls Tryz.prog 329 #[g.v, .int .i64 i] w fun e w'=>e= .returned (.tuple #[.int .i64 (4+i), .int .i64 0])∧Below w.heap.size w w':=by
 have h2:=hg.b1
 have hdi:decide (i<0)=false:=decide_eq_false (by omega)
 go_enter Tryz.func329,Tryz.ntmps329
 go_wp2_with (first
  |((with_reducible refine ag 69 (.tmp 0) g.cells (some 2) ?hgd ?ho ?hd ?hx ?_);(case hgd|ho|hd|hx=>rfl);(intro b1 w1 l1 B1 e1 z1))
  |((with_reducible refine ae 69 (.tmp 2) b1 0 g.cells _ (some 10) B1.range Tryz.underlying69 rfl bu ?hg ?ho ?hds ?hx ?_);(case ho|hg|hds|hx=>rfl))
  |(rw[hdi];((with_reducible refine ae 69 (.tmp 2) b1 0 g.cells _ (some 10) B1.range Tryz.underlying69 rfl bu ?hg ?ho ?hds ?hx ?_);(case ho|hg|hds|hx=>rfl)))
  |fail)
 refine(gZ g _ hg).mono ?_
 rintro e w2 ⟨rfl,hb2⟩
 go_wp2_with fail
 go_ret2
 exact⟨rfl,(e1.mono l1).trans (hb2.mono (Nat.le_trans l1 (Nat.le_of_lt z1)))⟩
theorem gh (n:Int) (w:World) (h:0≤n):
  Calls Tryz.prog 125 #[.int .i64 n] w fun e w'=>e= .returned (.int .i64 (2+n % 2))∧w=w':=by
 go_enter Tryz.func125,Tryz.ntmps125
 go_wp2_with fail
 go_ret
 exact⟨by show Ending.returned (.int .i64 (2+max n 0 % 2))= _;rw[Int.max_eq_left h],rfl⟩
theorem rz (n:Int) (w:World) (h:0≤n):
  Calls Tryz.prog 221 #[.int .i64 n] w fun e w'=>e= .returned (.int .i64 (n % 2))∧w=w':=by
 go_enter Tryz.func221,Tryz.ntmps221
 go_wp2_with fail
 go_ret
 exact⟨by show Ending.returned (.int .i64 (max n 0 % 2))= _;rw[Int.max_eq_left h],rfl⟩
def fj:List Int:=[4,4,4]
theorem i8 (w:World):
  Calls Tryz.prog 375 #[] w fun e w'=>(∃v,e= .returned v∧bc w' v fj)∧Below w.heap.size w w':=by
 go_enter Tryz.func375,Tryz.ntmps375
 go_wp2_with fail
 go_ret
 exact⟨⟨_,rfl,bc.blk (xs:=fj) (ab.new w (fj.map (Value.int .i64)) _) rfl 3⟩,(Below.refl _ _).alloc (Nat.le_refl _) _⟩
theorem yM {g:ay} (h:cM g):lY fj [g.blocks,g.lbas,g.first]:=by
 obtain⟨h1,h2,h3,h4,h5,h6⟩:=h
 have p4:(256:Nat)^4=4294967296:=rfl
 refine⟨rfl,fun i a x ha hx=> ?_⟩
 match i,ha,hx with
 |0,ha,hx=>simp[fj]at ha hx;subst ha;subst hx;simp;omega
 |1,ha,hx=>simp[fj]at ha hx;subst ha;subst hx;simp;omega
 |2,ha,hx=>simp[fj]at ha hx;subst ha;subst hx;simp;omega
theorem sf (g:ay):fR fj [g.blocks,g.lbas,g.first]=iZ g:=by simp[fR,fj,iZ]
theorem kH (g:ay) (w:World) (hg:cM g):
  Calls Tryz.prog 313 #[g.v] w fun e w'=>∃r,e= .returned (.tuple #[.string r, .int .i64 0])∧aj r (iZ g)∧Below w.heap.size w w':=by
 go_enter Tryz.func313,Tryz.ntmps313
 go_wp2_with (first
  |((with_reducible refine ag 69 (.tmp 0) g.cells (some 1) ?hgd ?ho ?hd ?hx ?_);(case hgd|ho|hd|hx=>rfl);(intro b1 w1 l1 B1 e1 z1))
  |((with_reducible refine ae 69 (.tmp 1) b1 0 g.cells _ (some 5) B1.range Tryz.underlying69 rfl bu ?hg ?ho ?hds ?hx ?_);(case ho|hg|hds|hx=>rfl))
  |fail)
 refine(eo g _ hg).mono ?_
 rintro e w2 ⟨rfl,hb2⟩
 have HB2:=Lib.hid (B1.below hb2 z1)
 have HBE2:=Lib.hid ((e1.mono l1).trans (hb2.mono (Nat.le_trans l1 (Nat.le_of_lt z1))))
 clear hb2 B1 e1
 go_upto_region 4 with fail
 refine wp_region_held_drew (S:=fun wx=>wx.cell? ⟨b1,0,none⟩=some (.int .i64 g.blocks)∧wx.cell? ⟨b1,1,none⟩=some (.int .i64 g.lbas)∧wx.cell? ⟨b1,2,none⟩=some (.int .i64 g.first)) (by kernel_rfl) (⟨HB2.out.cell (i:=0) rfl,HB2.out.cell (i:=1) rfl,HB2.out.cell (i:=2) rfl⟩) (fun hHeld=> ?_)
 obtain⟨wd,hwd⟩:∃wd,wd=w2.drew:=⟨_,rfl⟩
 have HBwd:Hid (ab wd b1 g.cells 69):=Lib.hid (by rw[hwd];exact HB2.out.drew)
 have HBEwd:Hid (Below w.heap.size w wd):=Lib.hid (by rw[hwd];exact HBE2.out.drew)
 rw[←hwd]
 rw[←hwd]at hHeld
 clear hwd
 refine hp 1 ?_
 refine hp 2 ?_
 refine hp 3 ?_
 refine hp 4 ?_
 refine hp 5 ?_
 refine hp 6 ?_
 refine wpAnyH_ready (rs:=[0,7]) (by kernel_rfl) (by simp) ?_
 refine AllReadyH.cons rfl (fun K hK=> ?_) (AllReadyH.cons rfl (fun K hK=> ?_) AllReadyH.nil)
 ·go_simp
  refine(i8 _).mono ?_
  rintro e wa ⟨⟨vw,rfl,hvw⟩,hb3⟩
  have HBwa:=Lib.hid (HBwd.out.below hb3 HBwd.out.lt)
  have HBEwa:=Lib.hid (HBEwd.out.trans (hb3.mono HBEwd.out.size))
  have HVWwa:=Lib.hid hvw
  skip
  clear hb3 hvw
  (try go_wp2_with fail)
  refine hK.out _ _ (⟨HBwa.out.cell (i:=0) rfl,HBwa.out.cell (i:=1) rfl,HBwa.out.cell (i:=2) rfl⟩) (fun hHeld2=> ?_)
  clear hK K hHeld
  have hHeld:=hHeld2
  clear hHeld2
  (try go_frame)
  refine wpAnyH_ready (rs:=[7]) (by kernel_rfl) (by simp) ?_
  refine AllReadyH.cons rfl (fun K hK=> ?_) AllReadyH.nil
  go_simp
  obtain⟨wb,hw4⟩:∃w4,w4=wa.alloc (Obj.cells #[Value.int IntKind.i64 g.blocks,Value.int IntKind.i64 g.lbas,Value.int IntKind.i64 g.first] 3):=⟨_,rfl⟩
  rw[←hw4]
  have hb4:Below wa.heap.size wa wb:=by rw[hw4];exact(Below.refl _ _).alloc (Nat.le_refl _) _
  have B4:ab wb wa.heap.size [.int .i64 g.blocks, .int .i64 g.lbas, .int .i64 g.first] 3:=by rw[hw4];exact ab.new wa _ _
  have HGwb:=Lib.hid B4
  have HBwb:=Lib.hid (HBwa.out.below hb4 HBwa.out.lt)
  have HBEwb:=Lib.hid (HBEwa.out.trans (hb4.mono HBEwa.out.size))
  have HVWwb:=Lib.hid (HVWwa.out.below hb4 (Nat.le_refl _))
  clear hb4 B4 hw4
  (try go_wp2_with fail)
  refine hK.out _ _ (⟨HBwb.out.cell (i:=0) rfl,HBwb.out.cell (i:=1) rfl,HBwb.out.cell (i:=2) rfl⟩) (fun hHeld2=> ?_)
  clear hK K hHeld
  have hHeld:=hHeld2
  clear hHeld2
  (try go_frame)
  refine wpAnyH_ready (rs:=[8]) (by kernel_rfl) (by simp) ?_
  refine AllReadyH.cons rfl (fun K hK=> ?_) AllReadyH.nil
  go_simp
  refine(iV _ _ fj [g.blocks,g.lbas,g.first] _ HVWwb.out (bc.blk (xs:=[g.blocks,g.lbas,g.first]) HGwb.out rfl 3) (by show 0<3;decide) (by show 3≤16;decide) (yM hg)).mono ?_
  rintro e wp ⟨r,rfl,tr,hb5⟩
  have HBp:=Lib.hid (HBwb.out.below hb5 HBwb.out.lt)
  have HBEp:=Lib.hid (HBEwb.out.trans (hb5.mono HBEwb.out.size))
  have HTR:=Lib.hid tr
  clear hb5 tr
  (try go_wp2_with fail)
  refine hK.out _ _ (⟨HBp.out.cell (i:=0) rfl,HBp.out.cell (i:=1) rfl,HBp.out.cell (i:=2) rfl⟩) (fun hHeld2=> ?_)
  clear hK K hHeld
  have hHeld:=hHeld2
  clear hHeld2
  (try go_frame)
  refine hp 9 ?_
  refine hp 10 ?_
  refine hp 11 ?_
  refine hp 12 ?_
  refine wpAnyH_done (by kernel_rfl) ?_ _
  go_wp2_with fail
  go_ret2
  exact⟨_,rfl,by rw[←sf];exact HTR.out,HBEp.out⟩
 ·go_simp
  obtain⟨wa,hw4⟩:∃w4,w4=wd.alloc (Obj.cells #[Value.int IntKind.i64 g.blocks,Value.int IntKind.i64 g.lbas,Value.int IntKind.i64 g.first] 3):=⟨_,rfl⟩
  rw[←hw4]
  have hb4:Below wd.heap.size wd wa:=by rw[hw4];exact(Below.refl _ _).alloc (Nat.le_refl _) _
  have B4:ab wa wd.heap.size [.int .i64 g.blocks, .int .i64 g.lbas, .int .i64 g.first] 3:=by rw[hw4];exact ab.new wd _ _
  have HGwa:=Lib.hid B4
  have HBwa:=Lib.hid (HBwd.out.below hb4 HBwd.out.lt)
  have HBEwa:=Lib.hid (HBEwd.out.trans (hb4.mono HBEwd.out.size))
  skip
  clear hb4 B4 hw4
  (try go_wp2_with fail)
  refine hK.out _ _ (⟨HBwa.out.cell (i:=0) rfl,HBwa.out.cell (i:=1) rfl,HBwa.out.cell (i:=2) rfl⟩) (fun hHeld2=> ?_)
  clear hK K hHeld
  have hHeld:=hHeld2
  clear hHeld2
  (try go_frame)
  refine wpAnyH_ready (rs:=[0]) (by kernel_rfl) (by simp) ?_
  refine AllReadyH.cons rfl (fun K hK=> ?_) AllReadyH.nil
  go_simp
  refine(i8 _).mono ?_
  rintro e wb ⟨⟨vw,rfl,hvw⟩,hb3⟩
  have HBwb:=Lib.hid (HBwa.out.below hb3 HBwa.out.lt)
  have HBEwb:=Lib.hid (HBEwa.out.trans (hb3.mono HBEwa.out.size))
  have HVWwb:=Lib.hid hvw
  have HGwb:=Lib.hid (HGwa.out.below hb3 HGwa.out.lt)
  clear hb3 hvw
  (try go_wp2_with fail)
  refine hK.out _ _ (⟨HBwb.out.cell (i:=0) rfl,HBwb.out.cell (i:=1) rfl,HBwb.out.cell (i:=2) rfl⟩) (fun hHeld2=> ?_)
  clear hK K hHeld
  have hHeld:=hHeld2
  clear hHeld2
  (try go_frame)
  refine wpAnyH_ready (rs:=[8]) (by kernel_rfl) (by simp) ?_
  refine AllReadyH.cons rfl (fun K hK=> ?_) AllReadyH.nil
  go_simp
  refine(iV _ _ fj [g.blocks,g.lbas,g.first] _ HVWwb.out (bc.blk (xs:=[g.blocks,g.lbas,g.first]) HGwb.out rfl 3) (by show 0<3;decide) (by show 3≤16;decide) (yM hg)).mono ?_
  rintro e wp ⟨r,rfl,tr,hb5⟩
  have HBp:=Lib.hid (HBwb.out.below hb5 HBwb.out.lt)
  have HBEp:=Lib.hid (HBEwb.out.trans (hb5.mono HBEwb.out.size))
  have HTR:=Lib.hid tr
  clear hb5 tr
  (try go_wp2_with fail)
  refine hK.out _ _ (⟨HBp.out.cell (i:=0) rfl,HBp.out.cell (i:=1) rfl,HBp.out.cell (i:=2) rfl⟩) (fun hHeld2=> ?_)
  clear hK K hHeld
  have hHeld:=hHeld2
  clear hHeld2
  (try go_frame)
  refine hp 9 ?_
  refine hp 10 ?_
  refine hp 11 ?_
  refine hp 12 ?_
  refine wpAnyH_done (by kernel_rfl) ?_ _
  go_wp2_with fail
  go_ret2
  exact⟨_,rfl,by rw[←sf];exact HTR.out,HBEp.out⟩
section
variable {P:Program} {o:Oper} {a:Act} {w:World} {K:Act→World→Prop} {Q:Exit→Act→World→Prop}
theorem gi (ty:TypeId) (x y:Operand) (b:Nat) (old cs:List Value) (t:TypeId) (hb:ab w b old t) (hl:cs.length=old.length)
  (hi:(P.info? ty).map (·.size)=some cs.length) (h1:∀v∈cs,v.oneCell'=true)
  (ho:o.op= .store ty x y) (hx:a.eval x= .pointer (some ⟨b,0,none⟩)) (hy:a.eval y= .agg cs.toArray)
  (h:∀w',ab w' b cs t→cz b w w'→K (a.put o.dst undef) w'):o.wp P a w K Q:=
 wp_store_mid ty x y ho b 0 cs.toArray hx hy (World.there_of hb (by simpa using hl)) (by simpa using hi) (all_oneCell_toArray h1) (by simpa using h _ (hb.setAll cs hl) ((cz.refl b w).setCells cs 0))
end
theorem gG {fn:Func} {p:Tmp} {ty:TypeId} {cs:List Value} {d:TypeDesc} (h:fn.results=#[.cell p ty]) (tmps:Array Value) (w:World) {b:Nat} (hb:w.rangeAt b 0 cs) (hp:tmps.getD p undef= .pointer (some ⟨b,0,none⟩))
  (hu:Tryz.prog.underlying ty=some d) (hd:d.isRow=true) (hi:(Tryz.prog.info? ty).map (·.size)=some cs.length):
  (results fn tmps).run Tryz.prog w= .ok (.agg cs.toArray) w:=by
 have e:=run_loadVar_mid (P:=Tryz.prog) w b 0 ty cs _ hb hu hd hi
 have e0:(results fn tmps).run Tryz.prog w=((asAddr (tmps.getD p undef)).run Tryz.prog w).andThen fun a w₁=>(loadVar ty a).run Tryz.prog w₁:=by
  simp only[results,h]
  simp[Sem.run_bind]
 rw[e0,hp]
 simp only[asAddr,Sem.run_pure,Result.andThen_ok,e]
end Go.Proofs.YtgimkmclgjfddaaGreat
