/- Walks of a segment: New, Put, Count, Leaves (chapters 16, 17). Leaves (chapter 16) and their hashes (chapter 15): what is said of one, its hash, whether they may be. Leaves (chapter 16): whether they may be, their hashes; whether texts are hashes (chapter 15). -/
import Derived.Test.YtgimkmclgjfddaaGreatQ7
import Derived.Test.YtgimkmclgjfddaaGreatQ5
import Derived.Test.YtgimkmclgjfddaaGreatQ2
import Derived.Maps.OwnSet
import Derived.Maps.OwnOps
import Derived.Maps.StringElems
import Derived.Carry
import Derived.Deep.DeepAppendWide
import Derived.OneCell
import Derived.WalkSpells
import Derived.Test.YtgimkmclgjfddaaGreatQ8
import Derived.Test.YtgimkmclgjfddaaGreatQ12
import Derived.Test.YtgimkmclgjfddaaGreatQ15
import Derived.RangeFuncFrom
import Derived.RangeFuncKeeps
import Derived.Deep.QuietTactic
import Derived.BigQuiet
import Derived.RangeFuncNested
import Derived.RangeFuncBound
import Derived.RangeFuncCalls
import Derived.RangeFuncLeaves
import Derived.Shelf.Abstract
import Derived.Shelf.RegionOpen
import Derived.OwnWalkIn
import Derived.TacticsInMore
import Derived.LoopNIn
import Derived.LoopIn
import Derived.Test.YtgimkmclgjfddaaGreatQ16
set_option linter.unusedSimpArgs false
set_option linter.unusedVariables false
set_option maxRecDepth 100000
set_option maxHeartbeats 4000000
namespace Go.Proofs.YtgimkmclgjfddaaGreat
open Go Go.RowKit Go.Maps Go.WideMaps
theorem pT:Keyed Tryz.prog 3:=int_keyed Tryz.underlying3
theorem rE (w:World):(zeroValue 9).run Tryz.prog w= .ok (.string ByteArray.empty) w:=by kernel_rfl
theorem D6 {k:Int} (h0:0≤k) (hk:k≤4294967296):keyOf Tryz.prog 3 (.int .i64 k)=some (.int .i64 k):=keyOf_int_mk Tryz.underlying3 (WalkArith.wf_i64 (by omega))
theorem pU:(Tryz.prog.info? 29).map (fun i=>(i.zero,i.size,i.bytes))=some (some (.agg #[.int .i64 0, .string ByteArray.empty]),2,24):=by kernel_rfl
theorem FB (B:Nat) (w:World):(binOp .neq 322 (.map (some B)) (.map none)).run Tryz.prog w= .ok (.bool true) w:=run_neq_map_nil w 322 3 9 (some B) Tryz.underlying322
structure kM (D:DataW Unit) (f:Int→Option (List UInt8)):Prop where
 map:IsMap D
 has:∀k,Maps.has D (.int .i64 k)=(f k).isSome
 val:∀k x,f k=some x→∀zd,D.atKey (.int .i64 k) zd= .lit (.string x)
theorem kM.none:kM (.map []) (fun _=>none):=⟨isMap_empty,fun _=>rfl,fun _ _ h=>by cases h⟩
theorem kM.put {D:DataW Unit} {f:Int→Option (List UInt8)} (h:kM D f) (k:Int) (x:List UInt8):kM (D.put (.int .i64 k) (.lit (.string x))) (fun j=>if j=k then some x else f j):=by
 refine⟨h.map.put _ _,fun j=> ?_,fun j y hj zd=> ?_⟩
 ·by_cases hjk:j=k
  ·subst hjk;rw[has_put_same h.map (show WideAt.IsKeyLit (.int .i64 j)from trivial)];simp
  ·rw[has_put_other (by intro e;injection e with _ e;exact hjk e),h.has j,if_neg hjk]
 ·by_cases hjk:j=k
  ·subst hjk
   rw[if_pos rfl]at hj
   obtain rfl:=Option.some.inj hj
   rw[atKey_put_same h.map (show WideAt.IsKeyLit (.int .i64 j)from trivial)]
  ·rw[if_neg hjk]at hj
   rw[atKey_put_other (by intro e;injection e with _ e;exact hjk e)]
   exact h.val j y hj zd
structure jn (w:World) (ps B n:Nat) (ep:Int) (D:DataW Unit):Prop where
 blk:ab w ps [.int .i64 ep, .map (some B)] 324
 map:w.ownsMap Tryz.prog 3 (plainElem Tryz.prog 9) B n D
 ne:B≠ps
theorem jn.below {w w':World} {ps B n:Nat} {ep:Int} {D:DataW Unit} (h:jn w ps B n ep D) (hb:Below w.heap.size w w'):jn w' ps B n ep D:=
 ⟨h.blk.below hb h.blk.lt,h.map.kept (below_grown hb) (by simp),h.ne⟩
theorem wW (ep:Int) (w:World) (e0:0≤ep) (e1:ep≤4294967295):
  Calls Tryz.prog 181 #[.int .i64 ep] w fun e w'=>(∃ps B,e= .returned (.tuple #[.pointer (some ⟨ps,0,none⟩), .int .i64 0])∧jn w' ps B 0 ep (.map [])∧w.heap.size≤B∧w.heap.size≤ps)∧Below w.heap.size w w':=by
 have hmm:=@run_makeMap Tryz.prog
 go_enter Tryz.func181,Tryz.ntmps181
 go_wp2_with (first
  |((with_reducible refine ag 324 (.tmp 12) ([.int .i64 ep, .map (some w.heap.size)]) (some 13) ?hgd ?ho ?hd ?hx ?_);(case hgd|ho|hd|hx=>rfl);(intro b3 w3 l3 B3 e3 z3))
  |fail)
 have hgt:w.heap.size<b3:=by simp at l3;omega
 have own0:w3.ownsMap Tryz.prog 3 (plainElem (H:=Unit) Tryz.prog 9) w.heap.size 0 (.map []):=
  (World.ownsMap_made w Tryz.prog 3 _).kept (below_grown (e3.mono l3)) (by simp)
 go_ret2
 exact⟨⟨b3,w.heap.size,rfl,⟨B3,own0,by omega⟩,Nat.le_refl _,by omega⟩,((Below.refl _ _).alloc (Nat.le_refl _) _).trans (e3.mono (by omega))⟩
theorem jC (ps B n:Nat) (ep:Int) (D:DataW Unit) (w:World) (h:jn w ps B n ep D):
  Calls Tryz.prog 184 #[.pointer (some ⟨ps,0,none⟩)] w fun e w'=>e= .returned (.bool true)∧w=w':=by
 have c1:=h.blk.cell (i:=1) rfl
 have hnn:=FB B
 go_enter Tryz.func184,Tryz.ntmps184
 go_wp2_with fail
 go_ret
 exact⟨rfl,rfl⟩
theorem fP {P:Program} (w:World) {ops:Array Oper} {rest:List Oper} {o:Oper} {a:Act} {Q:Exit→Act→World→Prop} (hg:o.guard=none) (m x:Operand) (t:TypeId) (hop:o.op=Op.lookup t m x true)
  (k e:TypeId) (K:Keyed P k) (ht:P.underlying t=some (.map k e)) (he:P.underlying e=some .string) (hz:(zeroValue e).run P w= .ok (.string ByteArray.empty) w) (b n:Nat) (D:DataW Unit)
  (hm:a.eval m= .map (some b)) (hown:w.ownsMap P k (plainElem P e) b n D) (key:Value) (kl:Lit) (hx:a.eval x=key) (eK:keyOf P k key=some kl)
  (hK:∀s:ByteArray,D.atKey kl (.lit (.string ByteArray.empty.data.toList))= .lit (.string s.data.toList)→wpList P ops Q rest (a.put o.dst (.tuple #[.string s, .bool (Maps.has D kl)])) w):
  wpList P ops Q (o::rest) a w:=
 wpList_lookup_own_ok w hg m x t hop k e K ht (plainElem P e) hz (.lit (.string ByteArray.empty.data.toList)) [] (plainElem_string he (by show 0≤_;omega)) b n D hm hown key kl hx eK (fun v ps hv=>by
  obtain⟨s,rfl,h2,_⟩:=plainElem_string_inv he hv
  exact hK s (congrArg Prod.fst h2))
structure bG where
 lba:Int
 hash:ByteArray
def bG.cells (x:bG):List Value:=[.int .i64 x.lba, .string x.hash]
def fu (l:List bG):List Value:=l.flatMap bG.cells
theorem uG (a b:List bG):fu (a++b)=fu a++fu b:=by simp[fu]
def bP (f:Int→Option (List UInt8)) (k:Nat):List bG:=(List.range k).filterMap fun(i:Nat)=>(f (i:Int)).map fun x=>⟨(i:Int),⟨x.toArray⟩⟩
theorem uH {f:Int→Option (List UInt8)} {k:Nat} {x:List UInt8} (h:f (k:Int)=some x):bP f (k+1)=bP f k++[⟨(k:Int),⟨x.toArray⟩⟩]:=by simp[bP,List.range_succ,h]
theorem oH {f:Int→Option (List UInt8)} {k:Nat} (h:f (k:Int)=none):bP f (k+1)=bP f k:=by simp[bP,List.range_succ,h]
theorem wX (f:Int→Option (List UInt8)) (k:Nat):(bP f k).length≤k:=by
 unfold bP
 exact Nat.le_trans (List.length_filterMap_le _ _) (by simp)
theorem qU (ps B n:Nat) (ep:Int) (D:DataW Unit) (f:Int→Option (List UInt8)) (w:World) (h:jn w ps B n ep D) (hD:kM D f):
  Calls Tryz.prog 186 #[.pointer (some ⟨ps,0,none⟩)] w fun e w'=>(∃vo,e= .returned vo∧w'.ownsRow w.heap.size 29 2 vo (bP f 4096).length (fu (bP f 4096)))∧Below w.heap.size w w':=by
 have HS:=Lib.hid h
 have HD:=Lib.hid hD
 clear h hD
 obtain⟨i0,hi,hz0,hz1,hz2⟩:=info_parts pU
 go_enter Tryz.func186,Tryz.ntmps186
 go_wp2_with fail
 refine(jC ps B n _ _ _ HS.out).mono ?_
 rintro e w1 ⟨rfl,rfl⟩
 go_wp2_with fail
 go_loopw [3,10] (fun vo i wr=>∃k:Nat,k≤4096∧i= .int .i64 k∧wr.ownsRow w.heap.size 29 2 vo (bP f k).length (fu (bP f k))∧Below w.heap.size w wr) (fun _ i _=>4096-(intOf i).toNat)
 case atStart=>exact⟨0,by omega,rfl,World.ownsRow_nil _ _ _ _,Below.refl _ _⟩
 case round=>
  obtain⟨k,hk,rfl,hvo,hbel⟩:=hrel
  have HV:=Lib.hid hvo
  have HB:=Lib.hid hbel
  have HSR:=Lib.hid (HS.out.below hbel)
  clear hvo hbel
  by_cases hlt:k<4096
  ·have hlt':(k:Int)<4096:=by omega
   have c1:=HSR.out.blk.cell (i:=1) rfl
   have eK:=D6 (k:=(k:Int)) (by omega) (by omega)
   obtain⟨q,hq⟩:∃q,f (k:Int)=q:=⟨_,rfl⟩
   cases q with
   |some x=>
    have hhas:Maps.has D (.int .i64 (k:Int))=true:=by rw[HD.out.has,hq];rfl
    have HQ:=Lib.hid hq
    clear hq
    have hlen:=wX f k
    obtain⟨n0,hn0⟩:∃n0,(bP f k).length=n0:=⟨_,rfl⟩
    have HN0:=Lib.hid hn0
    have hn1:n0≤4096:=by omega
    clear hn0 hlen
    have hvo:=HV.out
    rw[HN0.out]at hvo
    have HV2:=Lib.hid hvo
    clear hvo
    go_wp2_with (first
     |(at_lookup;refine fP _ rfl _ _ 322 rfl 3 9 pT Tryz.underlying322 Tryz.underlying9 (rE _) B n D rfl HSR.out.map _ _ rfl eK ?_;intro s hs0;have HSV:=Lib.hid hs0;clear hs0)
     |((with_reducible refine aS 88 29 1 ?parts [.int .i64 (k:Int), .string s] (.agg #[.int .i64 0, .string ByteArray.empty]) 2 24 (some 27) Tryz.underlying88 pU (by omega) (by omega) ?hgd ?ho ?hd ?hf ?_);(case hgd|ho|hd=>rfl);(case hf=>kernel_rfl);(intro g7 w7 l7 B7 e7 z7);(have hb7:=HB.out.trans (e7.mono (Nat.le_trans HB.out.size l7)));(have own7:=own_below (e7.mono l7) HV2.out))
     |(at_builtin;refine wpList_append_own_wide _ rfl _ _ 88 rfl w.heap.size 29 i0 (.agg #[.int .i64 0, .string ByteArray.empty]) 2 24 Tryz.underlying88 hi hz0 hz1 hz2 rfl (by decide) _ n0 _ rfl own7 ⟨g7,0,none⟩ 1 1 [.int .i64 (k:Int), .string s] rfl rfl (cd B7) (by intro v hv;simp at hv;rcases hv with rfl|rfl<;>rfl) (by unfold maxLen;omega) (by omega) hb7.size ?_;intro v' w8 own8 grow8 nil8)
     |fail)
    have hsx:s=⟨x.toArray⟩:=by
     have h1:=HSV.out
     rw[HD.out.val _ _ HQ.out]at h1
     injection h1 with h1
     injection h1 with h1
     exact aj.of (show aj s x from h1.symm)
    go_roundw
    case rel=>
     refine⟨k+1,by omega,by go_num, ?_,jv hb7 own7 grow8 (Nat.le_refl _) hb7.size⟩
     rw[uH HQ.out,uG,List.length_append,HN0.out]
     rw[hsx]at own8
     exact own8
    case measure=>simp[intOf];omega
   |none=>
    have hhas:Maps.has D (.int .i64 (k:Int))=false:=by rw[HD.out.has,hq];rfl
    have HQ:=Lib.hid hq
    clear hq
    go_wp2_with (first
     |(at_lookup;refine fP _ rfl _ _ 322 rfl 3 9 pT Tryz.underlying322 Tryz.underlying9 (rE _) B n D rfl HSR.out.map _ _ rfl eK ?_;intro s hs0;clear hs0)
     |fail)
    go_roundw
    case rel=>
     refine⟨k+1,by omega,by go_num, ?_,HB.out⟩
     rw[oH HQ.out]
     exact HV.out
    case measure=>simp[intOf];omega
  ·obtain rfl:k=4096:=by omega
   go_wp2_with fail
   go_ret
   exact⟨⟨_,rfl,HV.out⟩,HB.out⟩
def pV (x:bG):List UInt8:=beBytes 4 x.lba.toNat++x.hash.data.toList
def nV (x:bG):List UInt8:=dm ([0]++pV x)
structure uI (x:bG):Prop where
 l0:0≤x.lba
 l1:x.lba≤4095
 n:x.hash.size=32
theorem ic {x:bG}:(Tryz.prog.info? 29).map (·.size)=some x.cells.length:=by kernel_rfl
theorem uJ (x:bG):∀v∈x.cells,v.oneCell'=true:=by intro v hv;simp[bG.cells]at hv;rcases hv with rfl|rfl<;>rfl
theorem uK (w:World):Sem.run Tryz.prog (zeroValue 29) w= .ok (.agg (bG.cells ⟨0,⟨#[]⟩⟩).toArray) w:=by kernel_rfl
theorem wY (n:Int) (w:World) (h0:0≤n) (h1:n≤4095):
  Calls Tryz.prog 291 #[.int .i64 n] w fun e w'=>e= .returned (.bool true)∧w=w':=by
 go_enter Tryz.func291,Tryz.ntmps291
 go_wp2_with fail
 go_ret
 first|exact⟨rfl,rfl⟩|exact⟨bp (by simp;omega),rfl⟩|exact⟨bp (by simp),rfl⟩
theorem oI (x:bG) (w:World) (hx:uI x):
  Calls Tryz.prog 282 #[.agg x.cells.toArray] w fun e w'=>(∃r,e= .returned (.string r)∧aj r (pV x))∧Below w.heap.size w w':=by
 have HX:=Lib.hid hx
 have hn:(x.hash.size:Int)=32:=by have:=hx.n;omega
 clear hx
 go_enter Tryz.func282,Tryz.ntmps282
 go_wp2_with (first
  |((with_reducible refine ag 29 (.tmp 0) x.cells (some 1) ?hgd ?ho ?hd ?hx ?_);(case hgd|ho|hd|hx=>rfl);(intro b1 w1 l1 B1 e1 z1;have q0:=B1.cell (i:=0) rfl;have q1:=B1.cell (i:=1) rfl))
  |fail)
 have HB1:=Lib.hid B1
 have HBE1:=Lib.hid (e1.mono l1)
 clear B1 e1 z1 l1
 refine(wY x.lba _ HX.out.l0 HX.out.l1).mono ?_
 rintro e w' ⟨rfl,rfl⟩
 go_wp2_with fail
 obtain⟨k,hk⟩:∃k:Nat,x.lba=(k:Int):=⟨x.lba.toNat,by have:=HX.out.l0;omega⟩
 rw[hk]
 refine(mH k 4 _ (by decide) (by decide) (by have:=HX.out.l1;omega) (fun _=>by have:=HX.out.l1;simp;omega)).mono ?_
 rintro e w2 ⟨r,rfl,tr,hb2⟩
 have HTR:=Lib.hid tr
 have hr:r.size=4:=by rw[tr.size,beBytes_length]
 have HR:=Lib.hid hr
 have HBE2:=Lib.hid (HBE1.out.trans (hb2.mono HBE1.out.size))
 have q1:=(HB1.out.below hb2 HB1.out.lt).cell (i:=1) rfl
 have hsz:(r.size:Int)+(x.hash.size:Int)≤100:=by omega
 clear hb2 tr hr
 go_wp2_with fail
 go_ret
 refine⟨⟨_,rfl,(HTR.out.append (aj.self x.hash)).cast ?_⟩,HBE2.out⟩
 unfold pV
 rw[show x.lba.toNat=k by omega]
theorem zb (s:ByteArray) (w:World) (hs:s.size≤1000000):
  Calls Tryz.prog 399 #[.string s] w fun e w'=>(∃r,e= .returned (.string r)∧aj r (dm ([0]++s.data.toList)))∧Below w.heap.size w w':=by
 go_enter Tryz.func399,Tryz.ntmps399
 go_wp2_with fail
 refine(yG ⟨#[0]⟩ s _ _ (by show 1+s.size≤_;omega)).mono ?_
 rintro e w1 ⟨r,rfl,tr,hb⟩
 go_wp2_with fail
 go_ret
 exact⟨⟨r,rfl,tr⟩,hb⟩
theorem zc (x:bG) (w:World) (hx:uI x):
  Calls Tryz.prog 365 #[.agg x.cells.toArray] w fun e w'=>(∃r,e= .returned (.string r)∧aj r (nV x))∧Below w.heap.size w w':=by
 have HX:=Lib.hid hx
 clear hx
 go_enter Tryz.func365,Tryz.ntmps365
 go_wp2_with (first
  |((with_reducible refine ag 29 (.tmp 0) x.cells (some 1) ?hgd ?ho ?hd ?hx ?_);(case hgd|ho|hd|hx=>rfl);(intro b1 w1 l1 B1 e1 z1))
  |((with_reducible refine ar 29 (.tmp 1) b1 x.cells 29 _ B1 Tryz.underlying29 rfl ic ?hgd ?ho ?hx ?_);(case hgd|ho|hx=>rfl))
  |fail)
 have HBE1:=Lib.hid (e1.mono l1)
 clear B1 e1 z1 l1
 refine(oI x _ HX.out).mono ?_
 rintro e w2 ⟨⟨s,rfl,ts⟩,hb2⟩
 have HTS:=Lib.hid ts
 have HBE2:=Lib.hid (HBE1.out.trans (hb2.mono HBE1.out.size))
 clear ts hb2
 go_wp2_with fail
 refine(zb s _ (by rw[HTS.out.size];unfold pV;rw[List.length_append,beBytes_length,show x.hash.data.toList.length=x.hash.size from rfl];have:=HX.out.n;omega)).mono ?_
 rintro e w3 ⟨⟨r,rfl,tr⟩,hb3⟩
 have HTR:=Lib.hid (show aj r (nV x)from tr.cast (by unfold nV;rw[show s.data.toList= _ from HTS.out]))
 have HBE3:=Lib.hid (HBE2.out.trans (hb3.mono HBE2.out.size))
 clear tr hb3
 go_wp2_with fail
 go_ret
 exact⟨⟨r,rfl,HTR.out⟩,HBE3.out⟩
theorem uL (l:List bG):(fu l).length=l.length*2:=by
 induction l with
 |nil=>rfl
 |cons a r ih=>show(a.cells++fu r).length= _;rw[List.length_append,ih,List.length_cons];show 2+_= _;omega
theorem D7 (l:List bG):∀(j:Nat) (p:bG),l[j]?=some p→(fu l)[j*2]?=some (.int .i64 p.lba)∧(fu l)[j*2+1]?=some (.string p.hash):=by
 induction l with
 |nil=>intro j p h;simp at h
 |cons a r ih=>
  intro j p h
  have ha:a.cells.length=2:=rfl
  cases j with
  |zero=>simp at h;subst h;exact⟨rfl,rfl⟩
  |succ j=>
   have:=ih j p (by simpa using h)
   show(a.cells++fu r)[(j+1)*2]?= _∧(a.cells++fu r)[(j+1)*2+1]?= _
   rw[List.getElem?_append_right (by omega),List.getElem?_append_right (by omega),ha,show(j+1)*2-2=j*2 by omega,show(j+1)*2+1-2=j*2+1 by omega]
   exact this
theorem yn {w:World} {g:Nat} {l:List bG} {z:List Value} {t:TypeId} (h:ab w g (fu l++z) t) {m:Nat} {x:bG} (hx:l[m]?=some x):w.rangeAt g (m*2) x.cells:=by
 have hl:=(List.getElem?_eq_some_iff.1 hx).1
 have hf:=D7 l m x hx
 have h3:=uL l
 intro j u hu
 match j,hu with
 |0,hu=>simp[bG.cells]at hu;subst hu;exact h.cell (by rw[List.getElem?_append_left (by omega)];exact hf.1)
 |1,hu=>simp[bG.cells]at hu;subst hu;exact h.cell (by rw[List.getElem?_append_left (by omega)];exact hf.2)
 |j+2,hu=>simp[bG.cells]at hu
structure mf (l:List bG):Prop where
 each:∀(j:Nat) (x:bG),l[j]?=some x→uI x
 rise:∀(i j:Nat) (x y:bG),l[i]?=some x→l[j]?=some y→i<j→x.lba<y.lba
theorem uM (x:bG):(nV x).length=32:=bK _
def gu (w:World) (p:Option Addr) (n:Nat) (l:List bG):Prop:=l.length=n∧(0<n→∃g z,p=some ⟨g,0,none⟩∧ab w g (fu l++z) 29)
theorem gu.below {w w':World} {p:Option Addr} {n:Nat} {l:List bG} (h:gu w p n l) (hb:Below w.heap.size w w'):gu w' p n l:=
 ⟨h.1,fun hn=>by obtain⟨g,z,h1,h2⟩:=h.2 hn;exact⟨g,z,h1,h2.below hb h2.lt⟩⟩
theorem gu.own {w:World} {base n:Nat} {vo:Value} {l:List bG} (h:w.ownsRow base 29 2 vo n (fu l)) (hl:l.length=n):∃p c,vo= .slice p n c∧gu w p n l:=by
 obtain⟨p,c,hv⟩:=aT h
 refine⟨p,c,hv,hl,fun hn=> ?_⟩
 obtain⟨g,cap,z,he,_,_,hk⟩:=cY h hn
 rw[hv]at he
 injection he with he
 exact⟨g,z,he,hk⟩
def uN (l:List bG) (k:Nat):Int:=if k=0 then -1 else(l.getD (k-1) ⟨0,⟨#[]⟩⟩).lba
theorem wZ (p:Option Addr) (n c:Nat) (l:List bG) (w:World) (h:gu w p n l) (ok:mf l) (hn:n≤4096):
  Calls Tryz.prog 290 #[.slice p n c] w fun e w'=>e= .returned (.int .i64 0)∧Below w.heap.size w w':=by
 have HR:=Lib.hid h
 have HOK:=Lib.hid ok
 have HN:=Lib.hid h.1
 clear h ok
 go_enter Tryz.func290,Tryz.ntmps290
 go_wp2_with fail
 go_loopw [3,8] (fun v3 i wr=>∃k:Nat,k≤n∧i= .int .i64 k∧v3= .int .i64 (uN l k)∧Hid (Below w.heap.size w wr)) (fun _ i _=>n-(intOf i).toNat)
 case atStart=>exact⟨0,Nat.zero_le _,rfl,rfl,Lib.hid (Below.refl _ _)⟩
 case round=>
  obtain⟨k,hk,rfl,rfl,HBE⟩:=hrel
  by_cases hlt:k<n
  ·have hlt':(k:Int)<(n:Int):=by omega
   obtain⟨g,z,hp,hG⟩:=(HR.out.below HBE.out).2 (by omega)
   subst hp
   have HG:=Lib.hid hG
   obtain⟨x,hx⟩:∃x,l[k]?=some x:=⟨_,List.getElem?_eq_getElem (by have:=HN.out;omega)⟩
   have HX:=Lib.hid hx
   have HLO:=Lib.hid (HOK.out.each k x hx)
   have hwl:uN l k<x.lba:=by
    unfold uN
    by_cases h0:k=0
    ·rw[if_pos h0];have:=HLO.out.l0;omega
    ·rw[if_neg h0]
     obtain⟨y,hy⟩:∃y,l[k-1]?=some y:=⟨_,List.getElem?_eq_getElem (by have:=HN.out;omega)⟩
     rw[List.getD,hy]
     exact HOK.out.rise (k-1) k y x hy hx (by omega)
   obtain⟨wa,hwa⟩:∃wa,uN l k=wa:=⟨_,rfl⟩
   rw[hwa]at hwl
   have HWA:=Lib.hid hwa
   rw[hwa]
   have hle:¬x.lba≤wa:=by omega
   have HRX:=Lib.hid (yn HG.out HX.out)
   clear hwa hG hx hwl
   go_wp2_with (first
    |((with_reducible refine ae 29 (.tmp 10) g (k*2) x.cells _ (some 11) HRX.out Tryz.underlying29 rfl ic ?hg ?ho ?hds ?hx ?_);(case ho|hg|hds|hx=>rfl))
    |((with_reducible refine ai 29 _ uK (some 5) ?hgd ?ho ?hd ?_);(case hgd|ho|hd=>rfl);(intro b5 w5 l5 B5 e5 z5))
    |((with_reducible refine af 29 (.tmp 5) (.tmp 11) b5 (bG.cells ⟨0,⟨#[]⟩⟩) x.cells 29 B5 rfl ic (uJ _) ?hgd ?ho ?hx ?hy ?_);(case hgd|ho|hx|hy=>rfl);(intro w6 B6 o6;have q0:=B6.cell (i:=0) rfl;have q1:=B6.cell (i:=1) rfl))
    |((with_reducible refine ae 29 (.tmp 5) b5 0 x.cells _ (some 17) B6.range Tryz.underlying29 rfl ic ?hg ?ho ?hds ?hx ?_);(case ho|hg|hds|hx=>rfl))
    |fail)
   have HB6:=Lib.hid B6
   have HBE6:=Lib.hid (show Below w.heap.size w w6 from o6.below (HBE.out.trans (e5.mono (Nat.le_trans HBE.out.size l5))) (Nat.le_trans HBE.out.size l5))
   clear B5 B6 e5 z5 o6 l5 q0 q1
   refine(oI x _ HLO.out).mono ?_
   rintro e w7 ⟨⟨r,rfl,tr⟩,hb7⟩
   have hre:(r.toList==([]:List UInt8))=false:=by
    rw[beq_eq_false_iff_ne,tr.toList]
    intro e
    have:=congrArg List.length e
    unfold pV at this
    rw[List.length_append,beBytes_length]at this
    simp at this
   have q0:=(HB6.out.below hb7 HB6.out.lt).cell (i:=0) rfl
   have HBE7:=Lib.hid (HBE6.out.trans (hb7.mono HBE6.out.size))
   clear hb7 tr
   go_wp2_with fail
   go_roundw
   case rel=>exact⟨k+1,by omega,by go_num,by unfold uN;rw[if_neg (by omega),Nat.add_sub_cancel,List.getD,HX.out];rfl,HBE7⟩
   case measure=>simp[intOf];omega
  ·obtain rfl:k=n:=by omega
   go_wp2_with fail
   go_ret
   exact⟨rfl,HBE.out⟩
def fL (l:List bG):List ByteArray:=l.map fun x=>⟨(nV x).toArray⟩
theorem rF:(Tryz.prog.info? 9).map (fun i=>(i.zero,i.size,i.bytes))=some (some (.string ⟨#[]⟩),1,16):=by kernel_rfl
theorem uO (p:Option Addr) (n c:Nat) (l:List bG) (w:World) (h:gu w p n l) (ok:mf l) (hn:n≤4096):
  Calls Tryz.prog 292 #[.slice p n c] w fun e w'=>(∃vo,e= .returned vo∧w'.ownsRow w.heap.size 9 1 vo n ((fL l).map .string))∧Below w.heap.size w w':=by
 obtain⟨i0,hi,hz0,hz1,hz2⟩:=info_parts rF
 have HR:=Lib.hid h
 have HOK:=Lib.hid ok
 have HN:=Lib.hid h.1
 have HNB:=Lib.hid hn
 clear h ok
 go_enter Tryz.func292,Tryz.ntmps292
 go_wp2_with fail
 go_loopw [3,8] (fun vo i wr=>∃k:Nat,k≤n∧i= .int .i64 k∧Hid (wr.ownsRow w.heap.size 9 1 vo k ((fL (l.take k)).map .string))∧Hid (Below w.heap.size w wr)) (fun _ i _=>n-(intOf i).toNat)
 case atStart=>exact⟨0,Nat.zero_le _,rfl,Lib.hid (World.ownsRow_nil _ _ _ _),Lib.hid (Below.refl _ _)⟩
 case round=>
  obtain⟨k,hk,rfl,HO,HBE⟩:=hrel
  by_cases hlt:k<n
  ·have hlt':(k:Int)<(n:Int):=by omega
   obtain⟨g,z,hp,hG⟩:=(HR.out.below HBE.out).2 (by omega)
   subst hp
   have HG:=Lib.hid hG
   obtain⟨x,hx⟩:∃x,l[k]?=some x:=⟨_,List.getElem?_eq_getElem (by have:=HN.out;omega)⟩
   have HX:=Lib.hid hx
   have HLO:=Lib.hid (HOK.out.each k x hx)
   have HRX:=Lib.hid (yn HG.out HX.out)
   have HL1:=Lib.hid (show k+1≤maxLen from by have:=HNB.out;unfold maxLen;omega)
   have HL2:=Lib.hid (show(k+1)*16≤140737488355328 from by have:=HNB.out;omega)
   clear hG hx
   obtain⟨hs,hhs⟩:∃hs,(fL (l.take k)).map Value.string=hs:=⟨_,rfl⟩
   rw[hhs]at HO
   have HHS:=Lib.hid hhs
   clear hhs
   go_wp2_with (first
    |((with_reducible refine ae 29 (.tmp 10) g (k*2) x.cells _ (some 11) HRX.out Tryz.underlying29 rfl ic ?hg ?ho ?hds ?hx ?_);(case ho|hg|hds|hx=>rfl))
    |((with_reducible refine ai 29 _ uK (some 5) ?hgd ?ho ?hd ?_);(case hgd|ho|hd=>rfl);(intro b5 w5 l5 B5 e5 z5))
    |((with_reducible refine af 29 (.tmp 5) (.tmp 11) b5 (bG.cells ⟨0,⟨#[]⟩⟩) x.cells 29 B5 rfl ic (uJ _) ?hgd ?ho ?hx ?hy ?_);(case hgd|ho|hx|hy=>rfl);(intro w6 B6 o6))
    |((with_reducible refine ar 29 (.tmp 5) b5 x.cells 29 _ B6 Tryz.underlying29 rfl ic ?hgd ?ho ?hx ?_);(case hgd|ho|hx=>rfl))
    |fail)
   have hb6:Below wr.heap.size wr w6:=o6.below (e5.mono l5) l5
   have HBE6:=Lib.hid (HBE.out.trans (hb6.mono HBE.out.size))
   have HO6:=Lib.hid (own_below hb6 HO.out)
   clear B5 B6 e5 z5 o6 l5 hb6
   refine(zc x _ HLO.out).mono ?_
   rintro e w7 ⟨⟨r,rfl,tr⟩,hb7⟩
   have HTR:=Lib.hid tr
   have HBE7:=Lib.hid (HBE6.out.trans (hb7.mono HBE6.out.size))
   have HO7:=Lib.hid (own_below hb7 HO6.out)
   clear hb7 tr
   go_wp2_with (first
    |((with_reducible refine aS 30 9 1 ?parts15 [.string r] (.string ⟨#[]⟩) 1 16 (some 15) Tryz.underlying30 rF (by omega) (by omega) ?hgd ?ho ?hd ?hf ?_);(case hgd|ho|hd=>rfl);(case hf=>kernel_rfl);(intro g8 w8 l8 B8 e8 z8;have HB8:=Lib.hid B8;have HBE8:=Lib.hid (HBE7.out.trans (e8.mono (Nat.le_trans HBE7.out.size l8)));have HO8:=Lib.hid (own_below (e8.mono l8) HO7.out)))
    |(at_builtin;refine wpList_append_own_wide _ rfl _ _ 30 rfl w.heap.size 9 i0 (.string ⟨#[]⟩) 1 16 Tryz.underlying30 hi hz0 hz1 hz2 rfl (by decide) _ k hs rfl HO8.out ⟨g8,0,none⟩ 1 1 [.string r] rfl rfl (cd HB8.out) (by intro v hv;simp at hv;subst hv;rfl) (by have:=HL1.out;exact this) (by have:=HL2.out;omega) HBE8.out.size ?_;intro v' w9 own9 grow9 nil9)
    |fail)
   go_roundw
   case rel=>
    refine⟨k+1,by omega,by go_num,Lib.hid ?_,Lib.hid (jv HBE8.out HO8.out grow9 (Nat.le_refl _) HBE8.out.size)⟩
    have he:(fL (l.take (k+1))).map Value.string=(fL (l.take k)).map Value.string++[.string r]:=by
     obtain⟨h1,h2⟩:=List.getElem?_eq_some_iff.1 HX.out
     unfold fL
     rw[List.take_succ_eq_append_getElem h1,List.map_append,List.map_append,h2]
     simp only[List.map_cons,List.map_nil]
     rw[HTR.out.of]
    rw[he,HHS.out]
    exact own9
   case measure=>simp[intOf];omega
  ·obtain rfl:k=n:=by omega
   go_wp2_with fail
   go_ret
   refine⟨⟨_,rfl, ?_⟩,HBE.out⟩
   have:=HO.out
   rw[List.take_of_length_le (by rw[HN.out];exact Nat.le_refl _)]at this
   exact this
theorem xa (s:ByteArray) (w:World) (h:s.size=32):
  Calls Tryz.prog 401 #[.string s] w fun e w'=>e= .returned (.bool false)∧w=w':=by
 have hs:(s.size:Int)=32:=by omega
 go_enter Tryz.func401,Tryz.ntmps401
 go_wp2_with fail
 go_ret
 first|exact⟨rfl,rfl⟩|exact⟨bp (by simp[hs]),rfl⟩
theorem qV (p:Option Addr) (n c:Nat) (xs:List ByteArray) (w:World) (h:w.ownsRow 0 9 1 (.slice p n c) n (xs.map .string)) (hl:xs.length=n) (hs:∀x∈xs,x.size=32) (hn:n≤4096):
  Calls Tryz.prog 416 #[.slice p n c, .func (.func 401) #[] #[]] w fun e w'=>e= .returned (.int .i64 (-1))∧w=w':=by
 have HR:=Lib.hid h
 have HS:=Lib.hid hs
 have HL:=Lib.hid hl
 clear h hs hl
 go_enter Tryz.func416,Tryz.ntmps416
 go_wp2_with fail
 go_loopw [8] (fun i wr=>∃k:Nat,k≤n∧i= .int .i64 k∧wr=w) (fun i _=>n-(intOf i).toNat)
 case atStart=>exact⟨0,Nat.zero_le _,rfl,rfl⟩
 case round=>
  obtain⟨k,hk,rfl,rfl⟩:=hrel
  by_cases hlt:k<n
  ·have hlt':(k:Int)<(n:Int):=by omega
   obtain⟨g,cap,z,he,_,_,hG⟩:=cY HR.out (by omega)
   injection he with he1 _ he3
   subst he1
   obtain⟨x,hx⟩:∃x,xs[k]?=some x:=⟨_,List.getElem?_eq_getElem (by have:=HL.out;omega)⟩
   have hc:wr.cell? ⟨g,k,none⟩=some (.string x):=hG.cell (by rw[List.getElem?_append_left (by rw[List.length_map];have:=HL.out;omega),List.getElem?_map,hx];rfl)
   have hx32:=HS.out x (List.mem_of_getElem? hx)
   clear hG hx he3
   go_wp2_with fail
   refine(xa x _ hx32).mono ?_
   rintro e w' ⟨rfl,rfl⟩
   go_wp2_with fail
   go_roundw
   case rel=>exact⟨k+1,by omega,by go_num,by first|rfl|trivial⟩
   case measure=>simp[intOf];omega
  ·obtain rfl:k=n:=by omega
   go_wp2_with fail
   go_ret
   exact⟨rfl,rfl⟩
theorem zf (p:Option Addr) (n c:Nat) (xs:List ByteArray) (w:World) (h:w.ownsRow 0 9 1 (.slice p n c) n (xs.map .string)) (hl:xs.length=n) (hs:∀x∈xs,x.size=32) (hn:n≤4096):
  Calls Tryz.prog 367 #[.slice p n c] w fun e w'=>e= .returned (.bool true)∧w=w':=by
 go_enter Tryz.func367,Tryz.ntmps367
 go_wp2_with fail
 refine Calls.mono (show Calls Tryz.prog 400 #[.slice p n c, .func (.func 401) #[] #[]] _ (fun e w'=>e= .returned (.bool false)∧w=w')from ?_) ?_
 ·go_enter Tryz.func400,Tryz.ntmps400
  go_wp2_with fail
  refine(qV p n c xs _ h hl hs hn).mono ?_
  rintro e w' ⟨rfl,rfl⟩
  go_wp2_with fail
  go_ret
  exact⟨rfl,rfl⟩
 rintro e w' ⟨rfl,rfl⟩
 go_wp2_with fail
 go_ret
 exact⟨rfl,rfl⟩
attribute [local go_sem] Go.Oper.semAt_some
theorem pW {P:Program} {m:Nat} {c:Code} {Q:Exit→Act→World→Prop} {a:Act} {w:World} (h:c.wpIn Fence.wide m P (Exit.noGoto Q) a w):(Code.scope c).wpIn Fence.wide m P Q a w:=
 wpIn_wide.2 (wp_scope_straight (wpIn_wide.1 h))
theorem xc (p:Option Addr) (n c:Nat) (w:World):
  Calls Tryz.prog 368 #[.slice p n c] w fun e w'=>∃b,e= .returned (.func (.func 402) #[] #[.pointer (some ⟨b,0,none⟩)])∧ab w' b [.slice p n c] 30∧w.heap.size≤b∧Below w.heap.size w w':=by
 have hmf:∀(fn:Fn) (first cap:Array Value) (w:World),(Instr.makeFunc fn first cap).run Tryz.prog w= .ok (.func fn first cap) w:=fun _ _ _ _=>rfl
 go_enter Tryz.func368,Tryz.ntmps368
 go_wp2_with (first
  |((with_reducible refine aC 30 (.tmp 0) (.slice p n c) rfl (some 1) ?hgd ?ho ?hd ?hx ?_);(case hgd|ho|hd|hx=>rfl);(intro bm w1 l1 B1 e1 z1))
  |fail)
 go_ret
 exact⟨bm,rfl,B1,l1,e1.mono l1⟩
def mg (p:Option Addr) (n c:Nat) (_:Unit):Array Value:=#[.slice p n c]
theorem zg (m:Nat) (hm:1≤m) (b n₀:Nat) (p:Option Addr) (n c:Nat) (hn:n≤1) (r:Nat) (J Jx:List Unit→World→Prop) (W:World) (hb:ab W b [.slice p n c] 30)
  (hJ0:J [] W)
  (hY:∀pre x W1,J pre W1→pre.length<1→YieldAt Fence.wide (m-1) Tryz.prog r (mg p n c x) W1 fun e W'=>
   (e= .returned (.bool true)∧J (pre++[x]) W'∧Below n₀ W1 W')∨(e= .returned (.bool false)∧Jx (pre++[x]) W')):
  CallsIn Fence.wide m Tryz.prog 402 #[.func (.yield r) #[] #[], .pointer (some ⟨b,0,none⟩)] W fun e W'=>(∃v,e= .returned v)∧
   ((∃xs,(∃x,xs=[x])∧J xs W')∨(∃pre,(∃x,pre=[x])∧Jx pre W')):=by
 have cb:=hb.cell (i:=0) rfl
 have hn1:¬¬(n:Int)<2:=by omega
 obtain⟨fn,tmps,assign,body,hy,hR⟩:=hY [] () W hJ0 (by simp)
 dsimp only[mg]at hy
 have HR:=Lib.hid hR
 clear hR hY hJ0
 refine callsIn_of_wp Tryz.func402 rfl trivial ?_ rfl
 simp only[Tryz.ntmps402,List.size_toArray,List.length_cons,List.length_nil,Nat.reduceAdd,Nat.reduceSub,Array.replicate_succ,Array.replicate_zero,List.push_toArray,List.append_toArray,List.nil_append,List.cons_append]
 gi_wp2_with fail
 refine pW ?_
 gi_wp2_with fail
 refine wpIn_label ?_
 gi_wp2_with fail
 refine wpIn_loop_once ?_
 gi_wp2_with fail
 refine HR.out.mono ?_
 rintro e W3 (⟨rfl,hJ3,hk3⟩|⟨rfl,hJx3⟩)
 ·gi_wp2_with fail
  rw[Exit.noGoto_normal]
  refine bodyPost_end (results_none rfl _ _ _) rfl ?_
  exact⟨⟨_,rfl⟩, .inl ⟨_,⟨_,rfl⟩,hJ3⟩⟩
 ·gi_wp2_with fail
  rw[Exit.noGoto_normal]
  refine bodyPost_end (results_none rfl _ _ _) rfl ?_
  exact⟨⟨_,rfl⟩, .inr ⟨_,⟨_,rfl⟩,hJx3⟩⟩
theorem uP (m:Nat) (hm:1≤m) (b n₀:Nat) (p:Option Addr) (n c:Nat) (hn:n≤1) (w:World) (hb:ab w b [.slice p n c] 30):
  SeqStopsK Fence.wide m Tryz.prog 402 #[.pointer (some ⟨b,0,none⟩)] (mg p n c) (Below n₀) (fun xs=>∃x,xs=[x]) (fun pre=>∃x,pre=[x]) 1 w:=by
 intro r J Jx W hW hJ hJx hY h0
 exact zg m hm b n₀ p n c hn r J Jx W (hb.below hW hb.lt) h0 hY
def E9:List ByteArray→List UInt8
 |[]=>dm []
 |x::_=>x.data.toList
def yo (s:ByteArray) (xs:List ByteArray) (k:Nat):ByteArray:=if k=0 then s else xs.headD s
theorem ab.iceless {w w':World} {b:Nat} {c:List Value} {t:TypeId} {row:Option Nat} (h:ab w b c t) (hg:w.grownBy w' row) (hr:∀r,row=some r→∃o:Obj,w.heap[r]?=some o∧o.isCells=false):ab w' b c t:=by
 refine h.grown hg ?_
 intro e
 obtain⟨o,h1,h2⟩:=hr b e.symm
 unfold ab at h
 rw[h]at h1
 injection h1 with h1
 subst h1
 cases h2
theorem zh (W:World):KeepsOthers W W:=KeepsOthers.of_grownBy (below_grown (Below.refl _ _)) (fun j o e=>by cases e)
theorem zi (p:Option Addr) (n c:Nat) (xs:List ByteArray) (w:World) (h:w.ownsRow 0 9 1 (.slice p n c) n (xs.map .string)) (hl:xs.length=n) (hs:∀x∈xs,x.size=32) (hn:n≤1):
  Calls Tryz.prog 335 #[.slice p n c] w fun e w'=>(∃s,e= .returned (.tuple #[.string s, .int .i64 0])∧aj s (E9 xs))∧Below w.heap.size w w':=by
 have HO:=Lib.hid h
 have HL:=Lib.hid hl
 have HS:=Lib.hid hs
 clear h hl hs
 refine(callsIn_wide (n:=4)).1 ?_
 refine callsIn_of_wp_marks Tryz.func335 rfl trivial ?_ rfl
 simp only[Tryz.ntmps335,List.size_toArray,List.length_cons,List.length_nil,Nat.reduceAdd,Nat.reduceSub,Array.replicate_succ,Array.replicate_zero,List.push_toArray,List.append_toArray,List.nil_append,List.cons_append]
 gi_wp2_with (first
  |(refine⟨trivial, ?_⟩;gi_at_call 367;refine(callsIn_wide.2 (zf p n c xs _ HO.out HL.out HS.out (by omega))).mono ?_;rintro e w1 ⟨rfl,rfl⟩)
  |(refine⟨trivial, ?_⟩;gi_at_call 175;refine(callsIn_wide.2 (DW none 0 _)).mono ?_;rintro e w2 ⟨s0,rfl,ts0,hb2⟩;have HTS:=Lib.hid ts0;have HB2:=Lib.hid hb2;clear ts0 hb2)
  |(refine⟨trivial, ?_⟩;gi_at_call 368;refine(callsIn_wide.2 (xc p n c _)).mono ?_;rintro e wA ⟨bl,rfl,BL,lL,hbA⟩;have HBL:=Lib.hid BL;have HLL:=Lib.hid lL;have HBA:=Lib.hid hbA;clear BL lL hbA)
  |fail)
 obtain⟨b4,hb4⟩:∃b4,b4=w2.heap.size:=⟨_,rfl⟩
 rw[←hb4]
 have hB4:ab (w2.alloc (Obj.cells #[.string s0] 9)) b4 [.string s0] 9:=by rw[hb4];exact ab.new w2 [.string s0] 9
 have HB4:=Lib.hid (hB4.below HBA.out hB4.lt)
 have hbw:Below w.heap.size w (w2.alloc (Obj.cells #[.string s0] 9)):=HB2.out.trans (((Below.refl _ _).alloc (Nat.le_refl _) _).mono HB2.out.size)
 have HWA:=Lib.hid (hbw.trans (HBA.out.mono hbw.size))
 have h4w:w.heap.size≤b4:=by rw[hb4];exact HB2.out.size
 clear hB4 hbw HB2 HBA hb4 HLL
 have hA:w.heap.size≤wA.heap.size:=HWA.out.size
 refine wpIn_rangeFunc_ownF rfl (by omega) (gf:=402) (lb:=#[.pointer (some ⟨bl,0,none⟩)]) rfl trivial (enters_of Tryz.func402 (by kernel_rfl) rfl)
  (uP (4-1) (by omega) bl w.heap.size p n c hn wA HBL.out) belowK_t (belowK_b hA) (Below.refl _ _) (fun _=>rfl)
  (fun pre W=>ab W b4 [.string (yo s0 xs pre.length)] 9∧Below w.heap.size w W)
  (fun jc pre W=>False)
  (OwnFrom.and (Own.from (fun s A B row hs hg hr=>hs.iceless hg hr) _) (ownFrom_below (Nat.le_refl _) hA))
  (fun jc s W W' row h=>h.elim)
  ⟨HB4.out,HWA.out⟩
  (fun x=>{tmps:=#[.slice p n c,undef, .string ⟨#[]⟩, .int .i64 0, .pointer (some ⟨b4,0,none⟩), .slice p n c, .slice p n c, .bool true, .bool false, .string s0, .slice p n c, .func (.func 402) #[] #[.pointer (some ⟨bl,0,none⟩)], .slice p n c,undef,undef,undef,undef,undef,undef,undef],defers:=[]}) ?assign ?body ?done ?stop
 case assign=>
  intro r x W K hK
  dsimp only[mg]
  gi_wp2
  exact hK
 case body=>
  rintro r pre x W ⟨hb4,hB⟩ hlen
  obtain rfl:pre=[]:=List.eq_nil_of_length_eq_zero (by omega)
  have z4:=hb4.cell (i:=0) rfl
  have f4:=hb4.free 0
  rcases Nat.lt_or_ge 0 n with hp|hp
  ·obtain rfl:n=1:=by omega
   obtain⟨x0,rfl⟩:∃x0,xs=[x0]:=by
    rcases xs with _|⟨x0,_|⟨_,_⟩⟩
    ·have:=HL.out;simp at this
    ·exact⟨x0,rfl⟩
    ·have:=HL.out;simp at this
   obtain⟨g,cap,z,he,_,_,hk⟩:=cY HO.out (by omega)
   injection he with he _ _
   subst he
   have cg:=(hk.below hB hk.lt).cell (i:=0) rfl
   gi_wp2_with fail
   refine⟨KeepsOthers.setCell _ _ _,(Below.refl _ _).setCell (p:=⟨b4,0,none⟩) (by show w.heap.size≤b4;exact h4w) _, ?_,hB.setCell (p:=⟨b4,0,none⟩) (by show w.heap.size≤b4;exact h4w) _⟩
   exact hb4.set 0 (.string x0)
  ·obtain rfl:n=0:=by omega
   obtain rfl:xs=[]:=List.eq_nil_of_length_eq_zero HL.out
   gi_wp2_with fail
   exact⟨zh W,Below.refl _ _,hb4,hB⟩
 case done=>
  rintro D ys W hD ⟨x,rfl⟩ ⟨hb4,hB⟩ hK
  have z4:=hb4.cell (i:=0) rfl
  gi_wp2_with fail
  refine⟨by simp, .inl ⟨_,_,rfl,run_takeDeferred hK, ?_⟩⟩
  refine⟨.tuple #[.string (yo s0 xs 1), .int .i64 0], ?_,⟨_,rfl, ?_⟩,hB.trans (belowK_b (w:=w) (Nat.le_refl _) W D _ _ (by omega) hK rfl rfl)⟩
  ·simp[results,Tryz.f335,go_sem]
  ·rcases xs with _|⟨x0,xs⟩
   ·exact HTS.out
   ·rfl
 case stop=>
  rintro D jc pre W hD hpre h hK
  exact h.elim
theorem FC {w:World} {base n size:Nat} {e:TypeId} {v:Value} {xs:List Value} (h:w.ownsRow base e size v n xs):w.ownsRow 0 e size v n xs:=by
 rcases h with⟨h1,h2⟩
 refine⟨h1, ?_⟩
 rcases h2 with h2|⟨g,cap,cur,a,b,c⟩
 ·exact .inl h2
 ·exact .inr ⟨g,cap,cur,a,Nat.zero_le _,c⟩
def ju (f:Int→Option (List UInt8)):Prop:=∀k x,f k=some x→x.length=32
theorem ju.none:ju (fun _=>Option.none):=fun k x h=>by cases h
theorem ju.put {f:Int→Option (List UInt8)} (h:ju f) (k:Int) (x:List UInt8) (hx:x.length=32):ju (fun j=>if j=k then some x else f j):=by
 intro j y hy
 by_cases hj:j=k
 ·simp only[if_pos hj]at hy;obtain rfl:=Option.some.inj hy;exact hx
 ·simp only[if_neg hj]at hy;exact h j y hy
theorem uQ {f:Int→Option (List UInt8)} {k:Nat} {x:bG} (h:x∈bP f k):∃i:Nat,i<k∧∃y,f (i:Int)=some y∧x=⟨(i:Int),⟨y.toArray⟩⟩:=by
 unfold bP at h
 obtain⟨i,hi,h2⟩:=List.mem_filterMap.1 h
 refine⟨i,List.mem_range.1 hi, ?_⟩
 cases hf:f (i:Int)with
 |none=>rw[hf]at h2;cases h2
 |some y=>rw[hf]at h2;exact⟨y,rfl,(Option.some.inj h2).symm⟩
theorem sD (f:Int→Option (List UInt8)) (k:Nat):(bP f k).Pairwise fun x y=>x.lba<y.lba:=by
 unfold bP
 rw[List.pairwise_filterMap]
 refine List.Pairwise.imp ?_ List.pairwise_lt_range
 intro i j hij x hx y hy
 cases hf:f (i:Int)with
 |none=>rw[hf]at hx;cases hx
 |some u=>
  cases hg:f (j:Int)with
  |none=>rw[hg]at hy;cases hy
  |some v=>
   rw[hf]at hx;rw[hg]at hy
   obtain rfl:=Option.some.inj hx
   obtain rfl:=Option.some.inj hy
   show(i:Int)<(j:Int)
   omega
theorem xd {f:Int→Option (List UInt8)} (h:ju f) (k:Nat) (hk:k≤4096):mf (bP f k) where
 each j x hj:=by
  obtain⟨i,hi,y,hy,rfl⟩:=uQ (List.mem_of_getElem? hj)
  exact⟨by show(0:Int)≤(i:Int);omega,by show(i:Int)≤4095;omega,by show y.toArray.size=32;simpa using h _ _ hy⟩
 rise i j x y hi hj hij:=by
  obtain⟨h1,rfl⟩:=List.getElem?_eq_some_iff.1 hi
  obtain⟨h2,rfl⟩:=List.getElem?_eq_some_iff.1 hj
  exact List.pairwise_iff_getElem.1 (sD f k) i j h1 h2 hij
def Fa (l:List bG):List UInt8:=E9 (fL l)
theorem zj (p:Option Addr) (n c:Nat) (l:List bG) (w:World) (h:gu w p n l) (ok:mf l) (hn:n≤1):
  Calls Tryz.prog 257 #[.slice p n c] w fun e w'=>(∃s,e= .returned (.tuple #[.string s, .int .i64 0])∧aj s (Fa l))∧Below w.heap.size w w':=by
 have HR:=Lib.hid h
 have HOK:=Lib.hid ok
 clear h ok
 go_enter Tryz.func257,Tryz.ntmps257
 go_wp2_with fail
 refine(wZ p n c l _ HR.out HOK.out (by omega)).mono ?_
 rintro e w1 ⟨rfl,hb1⟩
 have HB1:=Lib.hid hb1
 have HR1:=Lib.hid (HR.out.below hb1)
 clear hb1
 go_wp2_with fail
 refine(uO p n c l _ HR1.out HOK.out (by omega)).mono ?_
 rintro e w2 ⟨⟨vo,rfl,ho⟩,hb2⟩
 have HB2:=Lib.hid (HB1.out.trans (hb2.mono HB1.out.size))
 obtain⟨q,d,rfl⟩:=aT ho
 have HO:=Lib.hid (FC ho)
 clear hb2 ho
 go_wp2_with fail
 refine(zi q n d (fL l) _ HO.out (by unfold fL;rw[List.length_map];exact HR.out.1) (fun x hx=> ?_) hn).mono ?_
 ·unfold fL at hx
  obtain⟨y,_,rfl⟩:=List.mem_map.1 hx
  show(nV y).toArray.size=32
  simpa using uM y
 rintro e w3 ⟨⟨s,rfl,ts⟩,hb3⟩
 have HTS:=Lib.hid ts
 have HB3:=Lib.hid (HB2.out.trans (hb3.mono HB2.out.size))
 clear hb3 ts
 go_wp2_with fail
 go_ret2
 exact⟨⟨s,rfl,HTS.out⟩,HB3.out⟩
theorem sE (ps B n:Nat) (ep:Int) (D:DataW Unit) (w:World) (h:jn w ps B n ep D):
  Calls Tryz.prog 144 #[.pointer (some ⟨ps,0,none⟩)] w fun e w'=>e= .returned (.int .i64 (Maps.size D))∧w=w':=by
 have HS:=Lib.hid h
 clear h
 go_enter Tryz.func144,Tryz.ntmps144
 go_wp2_with fail
 refine(jC ps B n _ _ _ HS.out).mono ?_
 rintro e w1 ⟨rfl,rfl⟩
 have c1:=HS.out.blk.cell (i:=1) rfl
 go_wp2_with (first
  |(at_len;refine wpList_len_own _ rfl _ 322 rfl 3 9 Tryz.underlying322 _ B n D rfl HS.out.map ?_)
  |fail)
 go_ret
 exact⟨rfl,rfl⟩
theorem uR (ps B n:Nat) (ep:Int) (D:DataW Unit) (f:Int→Option (List UInt8)) (w:World) (h:jn w ps B n ep D) (hD:kM D f) (hf:ju f) (hn:(bP f 4096).length≤1):
  Calls Tryz.prog 145 #[.pointer (some ⟨ps,0,none⟩)] w fun e w'=>(∃s,e= .returned (.string s)∧aj s (Fa (bP f 4096)))∧Below w.heap.size w w':=by
 have HS:=Lib.hid h
 have HD:=Lib.hid hD
 have HF:=Lib.hid hf
 clear h hD hf
 go_enter Tryz.func145,Tryz.ntmps145
 go_wp2_with fail
 refine(jC ps B n _ _ _ HS.out).mono ?_
 rintro e w1 ⟨rfl,rfl⟩
 go_wp2_with fail
 refine(qU ps B n ep D f _ HS.out HD.out).mono ?_
 rintro e w2 ⟨⟨vo,rfl,ho⟩,hb2⟩
 have HB2:=Lib.hid hb2
 obtain⟨q,d,rfl,hlr⟩:=gu.own ho rfl
 have HLR:=Lib.hid hlr
 clear hb2 ho hlr
 go_wp2_with fail
 refine(zj q _ d (bP f 4096) _ HLR.out (xd HF.out 4096 (Nat.le_refl _)) hn).mono ?_
 rintro e w3 ⟨⟨s,rfl,ts⟩,hb3⟩
 have HTS:=Lib.hid ts
 have HB3:=Lib.hid (HB2.out.trans (hb3.mono HB2.out.size))
 clear hb3 ts
 go_wp2_with fail
 go_ret
 exact⟨⟨s,rfl,HTS.out⟩,HB3.out⟩
def i9 (l:List ba) (ep:Int):List ba:=l.filter fun x=>decide (x.epoch=ep)
theorem yp {l:List ba} {ep:Int} {k:Nat} {x:ba} (hx:l[k]?=some x) (he:x.epoch=ep):i9 (l.take (k+1)) ep=i9 (l.take k) ep++[x]:=by
 obtain⟨h1,h2⟩:=List.getElem?_eq_some_iff.1 hx
 unfold i9
 rw[List.take_succ_eq_append_getElem h1,List.filter_append,h2]
 simp[he]
theorem GY {l:List ba} {ep:Int} {k:Nat} {x:ba} (hx:l[k]?=some x) (he:¬x.epoch=ep):i9 (l.take (k+1)) ep=i9 (l.take k) ep:=by
 obtain⟨h1,h2⟩:=List.getElem?_eq_some_iff.1 hx
 unfold i9
 rw[List.take_succ_eq_append_getElem h1,List.filter_append,h2]
 simp[he]
theorem D8 (l:List ba) (ep:Int) (k:Nat):(i9 (l.take k) ep).length≤(i9 l ep).length:=by
 unfold i9
 exact((List.take_sublist k l).filter _).length_le
theorem Bh {l:List ba} {ep:Int} {k:Nat} {x:ba} (h:(i9 l ep).length≤1) (hx:l[k]?=some x) (he:x.epoch=ep):i9 (l.take k) ep=[]:=by
 have h1:=D8 l ep (k+1)
 rw[yp hx he,List.length_append]at h1
 simp only[List.length_cons,List.length_nil]at h1
 exact List.eq_nil_of_length_eq_zero (by omega)
theorem GZ {w:World} {base base' n size:Nat} {e:TypeId} {v:Value} {xs:List Value} (h:w.ownsRow base e size v n xs) (hb:base'≤base):w.ownsRow base' e size v n xs:=by
 rcases h with⟨h1,h2⟩
 refine⟨h1, ?_⟩
 rcases h2 with h2|⟨g,cap,cur,a,b,c⟩
 ·exact .inl h2
 ·exact .inr ⟨g,cap,cur,a,Nat.le_trans hb b,c⟩
theorem pX:(Tryz.prog.info? 181).map (fun i=>(i.zero,i.size,i.bytes))=some (some (.agg #[.int .i64 0, .int .i64 0, .int .i64 0]),3,24):=by kernel_rfl
theorem xe (xb n:Nat) (xv:Value) (l:List ba) (ep:Int) (w:World) (hX:ab w xb [.bool true,xv] 314) (hR:w.ownsRow 0 181 3 xv n (cO l)) (hl:l.length=n) (hn:n≤4096) (h1:(i9 l ep).length≤1):
  Calls Tryz.prog 182 #[.pointer (some ⟨xb,0,none⟩), .int .i64 ep] w fun e w'=>(∃vo,e= .returned vo∧w'.ownsRow w.heap.size 181 3 vo (i9 l ep).length (cO (i9 l ep)))∧Below w.heap.size w w':=by
 obtain⟨i0,hi,hz0,hz1,hz2⟩:=info_parts pX
 have HX:=Lib.hid hX
 have HR:=Lib.hid hR
 have HL:=Lib.hid hl
 have HN:=Lib.hid hn
 have H1:=Lib.hid h1
 clear hX hR hl hn h1
 go_enter Tryz.func182,Tryz.ntmps182
 go_wp2_with fail
 refine(Bc xb n xv l _ HX.out HR.out HN.out).mono ?_
 rintro e w1 ⟨⟨va,rfl,ha⟩,hb1⟩
 obtain⟨pa,ca,rfl⟩:=aT ha
 have HA:=Lib.hid ha
 have HB1:=Lib.hid hb1
 clear ha hb1
 go_wp2_with fail
 go_loopw [5,12] (fun vo i wr=>∃k:Nat,k≤n∧i= .int .i64 k∧Hid (wr.ownsRow w1.heap.size 181 3 vo (i9 (l.take k) ep).length (cO (i9 (l.take k) ep)))∧Hid (Below w1.heap.size w1 wr)) (fun _ i _=>n-(intOf i).toNat)
 case atStart=>exact⟨0,Nat.zero_le _,rfl,Lib.hid (World.ownsRow_nil _ _ _ _),Lib.hid (Below.refl _ _)⟩
 case round=>
  obtain⟨k,hk,rfl,HO,HB2⟩:=hrel
  have hn:=HN.out
  by_cases hlt:k<n
  ·have hlt':(k:Int)<(n:Int):=by omega
   obtain⟨g,cap,z,he,_,_,hG⟩:=cY HA.out (by omega)
   injection he with he hnn hcc
   subst he hcc
   clear hnn
   have HG:=Lib.hid (hG.below HB2.out hG.lt)
   obtain⟨x,hx⟩:∃x,l[k]?=some x:=⟨_,List.getElem?_eq_getElem (by have:=HL.out;omega)⟩
   have HX1:=Lib.hid hx
   have HRX:=Lib.hid (FA HG.out HX1.out)
   clear hG hx
   by_cases hxe:x.epoch=ep
   ·have hv0:=Bh H1.out HX1.out hxe
    have ho2:=HO.out
    rw[hv0]at ho2
    simp only[List.length_nil]at ho2
    have HO2:=Lib.hid ho2
    clear ho2
    obtain⟨po,co,rfl⟩:=aT HO2.out
    have HV0:=Lib.hid hv0
    clear hv0
    go_upto_region 7 with(first
     |((with_reducible refine ae 181 (.tmp 14) g (k*3) x.cells _ (some 15) HRX.out Tryz.underlying181 rfl km ?hg ?ho ?hds ?hx ?_);(case ho|hg|hds|hx=>rfl))
     |((with_reducible refine ai 181 _ uE (some 7) ?hgd ?ho ?hd ?_);(case hgd|ho|hd=>rfl);(intro b7 w5 l5 B5 e5 z5))
     |((with_reducible refine af 181 (.tmp 7) (.tmp 15) b7 (ba.cells ⟨0,0,0⟩) x.cells 181 B5 rfl km (pj _) ?hgd ?ho ?hx ?hy ?_);(case hgd|ho|hx|hy=>rfl);(intro w6 B6 o6;have y0:=B6.cell (i:=0) rfl;have y1:w6.cell? ⟨b7,1,none⟩=some (.int .i64 ep):=(by rw[←hxe];exact B6.cell (i:=1) rfl)))
     |fail)
    have HB6:=Lib.hid B6
    have hb6:Below wr.heap.size wr w6:=o6.below (e5.mono l5) l5
    have HB26:=Lib.hid (HB2.out.trans (hb6.mono HB2.out.size)).drew
    have HO6:=Lib.hid (own_below hb6.drew HO2.out)
    clear B5 e5 z5 o6 l5 hb6 y0 y1
    go_region
    have HB6d:=Lib.hid HB6.out.drew
    obtain⟨wd,hwd⟩:∃wd,wd=w6.drew:=⟨_,rfl⟩
    rw[←hwd]at HB26 HO6 HB6d
    rw[←hwd]
    clear HB6 B6 hwd
    go_wp2_with (first
     |((with_reducible refine ar 181 (.tmp 7) b7 x.cells 181 _ HB6d.out Tryz.underlying181 rfl km ?hgd ?ho ?hx ?_);(case hgd|ho|hx=>rfl))
     |((with_reducible refine aS 258 181 1 ?parts x.cells (.agg #[.int .i64 0, .int .i64 0, .int .i64 0]) 3 24 (some 42) Tryz.underlying258 pX (by omega) (by omega) ?hgd ?ho ?hd ?hf ?_);(case hgd|ho|hd=>rfl);(case hf=>kernel_rfl);(intro g8 w8 l8 B8 e8 z8;have HB8:=Lib.hid B8;have HB28:=Lib.hid (HB26.out.trans (e8.mono (Nat.le_trans HB26.out.size l8)));have HO8:=Lib.hid (own_below (e8.mono l8) HO6.out)))
     |(at_builtin;refine wpList_append_own_wide _ rfl _ _ 258 rfl w1.heap.size 181 i0 (.agg #[.int .i64 0, .int .i64 0, .int .i64 0]) 3 24 Tryz.underlying258 hi hz0 hz1 hz2 rfl (by decide) _ 0 (cO []) rfl HO8.out ⟨g8,0,none⟩ 1 1 x.cells rfl rfl (cd HB8.out) (pj _) (by unfold maxLen;omega) (by omega) HB28.out.size ?_;intro v' w9 own9 grow9 nil9)
     |fail)
    go_roundw
    case rel=>
     refine⟨k+1,by omega,by go_num,Lib.hid ?_,Lib.hid (jv HB28.out HO8.out grow9 (Nat.le_refl _) HB28.out.size)⟩
     ·rw[yp HX1.out hxe,HV0.out]
      show World.ownsRow _ _ _ _ _ 1 (cO [x])
      have he:cO [x]=cO []++x.cells:=by simp[cO]
      rw[he]
      exact own9
    case measure=>simp[intOf];omega
   ·have hxe':(x.epoch==ep)=false:=beq_eq_false_iff_ne.2 hxe
    go_wp2_with (first
     |((with_reducible refine ae 181 (.tmp 14) g (k*3) x.cells _ (some 15) HRX.out Tryz.underlying181 rfl km ?hg ?ho ?hds ?hx ?_);(case ho|hg|hds|hx=>rfl))
     |((with_reducible refine ai 181 _ uE (some 7) ?hgd ?ho ?hd ?_);(case hgd|ho|hd=>rfl);(intro b7 w5 l5 B5 e5 z5))
     |((with_reducible refine af 181 (.tmp 7) (.tmp 15) b7 (ba.cells ⟨0,0,0⟩) x.cells 181 B5 rfl km (pj _) ?hgd ?ho ?hx ?hy ?_);(case hgd|ho|hx|hy=>rfl);(intro w6 B6 o6;have y1:w6.cell? ⟨b7,1,none⟩=some (.int .i64 x.epoch):=B6.cell (i:=1) rfl))
     |fail)
    have hb6:Below wr.heap.size wr w6:=o6.below (e5.mono l5) l5
    go_roundw
    case rel=>
     refine⟨k+1,by omega,by go_num,Lib.hid ?_,Lib.hid (HB2.out.trans (hb6.mono HB2.out.size))⟩
     rw[GY HX1.out hxe]
     exact own_below hb6 HO.out
    case measure=>simp[intOf];omega
  ·obtain rfl:k=n:=by omega
   go_wp2_with fail
   go_ret
   refine⟨⟨_,rfl,GZ ?_ HB1.out.size⟩,HB1.out.trans (HB2.out.mono HB1.out.size)⟩
   have:=HO.out
   rw[List.take_of_length_le (by rw[HL.out];exact Nat.le_refl _)]at this
   exact this
end Go.Proofs.YtgimkmclgjfddaaGreat
