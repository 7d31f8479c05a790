/- Walks of a segment: New, Put, Count, Leaves (chapters 16, 17). Leaves (chapter 16) and their hashes (chapter 15): what is said of one, its hash, whether they may be. Leaves (chapter 16): whether they may be, their hashes; whether texts are hashes (chapter 15). -/
import Derived.Test.YtngiibgdgenidaaGreatQ7
import Derived.Test.YtngiibgdgenidaaGreatQ5
import Derived.Test.YtngiibgdgenidaaGreatQ2
import Derived.Maps.OwnSet
import Derived.Maps.OwnOps
import Derived.Maps.StringElems
import Derived.Carry
import Derived.Deep.DeepAppendWide
import Derived.OneCell
import Derived.WalkSpells
import Derived.Test.YtngiibgdgenidaaGreatQ4
import Derived.Test.YtngiibgdgenidaaGreatQ11
import Derived.Test.YtngiibgdgenidaaGreatQ13
import Derived.RangeFuncFrom
import Derived.RangeFuncKeeps
import Derived.Deep.QuietTactic
import Derived.BigQuiet
import Derived.RangeFuncNested
import Derived.RangeFuncBound
import Derived.RangeFuncCalls
import Derived.RangeFuncLeaves
import Derived.Shelf.Abstract
import Derived.Shelf.RegionOpen
import Derived.OwnWalkIn
import Derived.TacticsInMore
import Derived.LoopNIn
import Derived.LoopIn
set_option linter.unusedSimpArgs false
set_option linter.unusedVariables false
set_option maxRecDepth 100000
set_option maxHeartbeats 4000000
namespace Go.Proofs.YtngiibgdgenidaaGreat
open Go Go.RowKit Go.Maps Go.WideMaps
theorem pV:Keyed Tryz.prog 3:=int_keyed Tryz.underlying3
theorem rW (w:World):(zeroValue 9).run Tryz.prog w= .ok (.string ByteArray.empty) w:=by kernel_rfl
theorem DY {k:Int} (h0:0≤k) (hk:k≤4294967296):keyOf Tryz.prog 3 (.int .i64 k)=some (.int .i64 k):=keyOf_int_mk Tryz.underlying3 (WalkArith.wf_i64 (by omega))
theorem A4:(Tryz.prog.info? 3).map (fun i=>(i.zero,i.size,i.bytes))=some (some (.int .i64 0),1,8):=by kernel_rfl
theorem pW:(Tryz.prog.info? 63).map (fun i=>(i.zero,i.size,i.bytes))=some (some (.agg #[.int .i64 0, .string ByteArray.empty]),2,24):=by kernel_rfl
theorem Fp (B:Nat) (w:World):(binOp .neq 276 (.map (some B)) (.map none)).run Tryz.prog w= .ok (.bool true) w:=run_neq_map_nil w 276 3 9 (some B) Tryz.underlying276
def zm (ep slot:Int) (c:List UInt8):List UInt8:=de (fm [4,4] [ep,slot]++c)
theorem DZ {ep slot:Int} (e0:0≤ep) (e1:ep≤4294967295) (s0:0≤slot) (s1:slot≤4294967295):mg [4,4] [ep,slot]:=⟨rfl,fun i a x ha hx=>by
 rcases i with _|_|i
 ·simp at ha hx;subst ha hx;simp;omega
 ·simp at ha hx;subst ha hx;simp;omega
 ·simp at ha⟩
theorem A5 (ep slot:Int) (c:ByteArray) (w:World) (e0:0≤ep) (e1:ep≤4294967295) (s0:0≤slot) (s1:slot≤4294967295) (hc:c.size≤4096):
  Calls Tryz.prog 281 #[.int .i64 ep, .int .i64 slot, .string c] w fun e w'=>(∃r,e= .returned (.tuple #[.string r, .int .i64 0])∧ak r (zm ep slot c.data.toList))∧Below w.heap.size w w':=by
 go_enter Tryz.func281,Tryz.ntmps281
 go_wp2_with (first
  |((with_reducible refine bD 22 3 2 ?parts [.int .i64 4, .int .i64 4] (.int .i64 0) 1 8 (some 11) Tryz.underlying22 A4 (by omega) (by omega) ?hgd ?ho ?hd ?hf ?_);(case hgd|ho|hd=>rfl);(case hf=>kernel_rfl);(intro g1 w1 l1 B1 e1 z1))
  |fail)
 obtain⟨w2,hw2⟩:∃w2,w2=w1.alloc (Obj.cells #[Value.int IntKind.i64 ep,Value.int IntKind.i64 slot] 3):=⟨_,rfl⟩
 have B2:ac w2 w1.heap.size [.int .i64 ep, .int .i64 slot] 3:=by rw[hw2];exact ac.new w1 _ _
 have e2:Below w1.heap.size w1 w2:=by rw[hw2];exact(Below.refl _ _).alloc (Nat.le_refl _) _
 have l2:w1.heap.size≤w1.heap.size:=Nat.le_refl _
 rw[←hw2]
 clear hw2
 have HB2:=Lib.hid (show Below w.heap.size w w2 from(e1.mono l1).trans (e2.mono (by have:=e1.size;omega)))
 refine(gK _ _ [4,4] [ep,slot] _ (bF.blk (xs:=[4,4]) (B1.below e2 (Nat.lt_of_lt_of_le B1.lt l2)) rfl 2) (bF.blk (xs:=[ep,slot]) B2 rfl 2) (by simp) (by simp) (DZ (by assumption) (by assumption) (by assumption) (by assumption))).mono ?_
 rintro e w3 ⟨r,rfl,tr,hb3⟩
 have HTR:=Lib.hid tr
 have hr:r.size=8:=by rw[tr.size];simp[fm,beBytes_length]
 have HR:=Lib.hid hr
 have HB3:=Lib.hid (HB2.out.trans (hb3.mono HB2.out.size))
 clear B1 B2 e2 l1 l2 z1 hb3 tr hr
 go_wp2_with fail
 refine(rE r c _ _ (by rw[HR.out];omega)).mono ?_
 rintro e w4 ⟨t,rfl,tt,hb4⟩
 have HTT:=Lib.hid (show ak t (zm ep slot c.data.toList)from tt.cast (by unfold zm;rw[show r.data.toList= _ from HTR.out]))
 have HB4:=Lib.hid (HB3.out.trans (hb4.mono HB3.out.size))
 clear tt hb4
 go_wp2_with fail
 go_ret2
 exact⟨⟨t,rfl,HTT.out⟩,HB4.out⟩
structure jU (D:DataW Unit) (f:Int→Option (List UInt8)):Prop where
 map:IsMap D
 has:∀k,Maps.has D (.int .i64 k)=(f k).isSome
 val:∀k x,f k=some x→∀zd,D.atKey (.int .i64 k) zd= .lit (.string x)
theorem jU.none:jU (.map []) (fun _=>none):=⟨isMap_empty,fun _=>rfl,fun _ _ h=>by cases h⟩
theorem jU.put {D:DataW Unit} {f:Int→Option (List UInt8)} (h:jU D f) (k:Int) (x:List UInt8):jU (D.put (.int .i64 k) (.lit (.string x))) (fun j=>if j=k then some x else f j):=by
 refine⟨h.map.put _ _,fun j=> ?_,fun j y hj zd=> ?_⟩
 ·by_cases hjk:j=k
  ·subst hjk;rw[has_put_same h.map (show WideAt.IsKeyLit (.int .i64 j)from trivial)];simp
  ·rw[has_put_other (by intro e;injection e with _ e;exact hjk e),h.has j,if_neg hjk]
 ·by_cases hjk:j=k
  ·subst hjk
   rw[if_pos rfl]at hj
   obtain rfl:=Option.some.inj hj
   rw[atKey_put_same h.map (show WideAt.IsKeyLit (.int .i64 j)from trivial)]
  ·rw[if_neg hjk]at hj
   rw[atKey_put_other (by intro e;injection e with _ e;exact hjk e)]
   exact h.val j y hj zd
structure iM (w:World) (ps B n:Nat) (ep:Int) (D:DataW Unit):Prop where
 blk:ac w ps [.int .i64 ep, .map (some B)] 278
 map:w.ownsMap Tryz.prog 3 (plainElem Tryz.prog 9) B n D
 ne:B≠ps
theorem iM.below {w w':World} {ps B n:Nat} {ep:Int} {D:DataW Unit} (h:iM w ps B n ep D) (hb:Below w.heap.size w w'):iM w' ps B n ep D:=
 ⟨h.blk.below hb h.blk.lt,h.map.kept (below_grown hb) (by simp),h.ne⟩
theorem wZ (ep:Int) (w:World) (e0:0≤ep) (e1:ep≤4294967295):
  Calls Tryz.prog 195 #[.int .i64 ep] w fun e w'=>(∃ps B,e= .returned (.tuple #[.pointer (some ⟨ps,0,none⟩), .int .i64 0])∧iM w' ps B 0 ep (.map [])∧w.heap.size≤B∧w.heap.size≤ps)∧Below w.heap.size w w':=by
 have hmm:=@run_makeMap Tryz.prog
 go_enter Tryz.func195,Tryz.ntmps195
 go_wp2_with (first
  |((with_reducible refine ai 278 (.tmp 12) ([.int .i64 ep, .map (some w.heap.size)]) (some 13) ?hgd ?ho ?hd ?hx ?_);(case hgd|ho|hd|hx=>rfl);(intro b3 w3 l3 B3 e3 z3))
  |fail)
 have hgt:w.heap.size<b3:=by simp at l3;omega
 have Ar:w3.ownsMap Tryz.prog 3 (plainElem (H:=Unit) Tryz.prog 9) w.heap.size 0 (.map []):=
  (World.ownsMap_made w Tryz.prog 3 _).kept (below_grown (e3.mono l3)) (by simp)
 go_ret2
 exact⟨⟨b3,w.heap.size,rfl,⟨B3,Ar,by omega⟩,Nat.le_refl _,by omega⟩,((Below.refl _ _).alloc (Nat.le_refl _) _).trans (e3.mono (by omega))⟩
theorem hZ (ps B n:Nat) (ep:Int) (D:DataW Unit) (w:World) (h:iM w ps B n ep D):
  Calls Tryz.prog 202 #[.pointer (some ⟨ps,0,none⟩)] w fun e w'=>e= .returned (.bool true)∧w=w':=by
 have c1:=h.blk.cell (i:=1) rfl
 have hnn:=Fp B
 go_enter Tryz.func202,Tryz.ntmps202
 go_wp2_with fail
 go_ret
 exact⟨rfl,rfl⟩
theorem gg {P:Program} (w:World) {ops:Array Oper} {rest:List Oper} {o:Oper} {a:Act} {Q:Exit→Act→World→Prop} (hg:o.guard=none) (m x:Operand) (t:TypeId) (hop:o.op=Op.lookup t m x true)
  (k e:TypeId) (K:Keyed P k) (ht:P.underlying t=some (.map k e)) (he:P.underlying e=some .string) (hz:(zeroValue e).run P w= .ok (.string ByteArray.empty) w) (b n:Nat) (D:DataW Unit)
  (hm:a.eval m= .map (some b)) (hown:w.ownsMap P k (plainElem P e) b n D) (key:Value) (kl:Lit) (hx:a.eval x=key) (gd:keyOf P k key=some kl)
  (hK:∀s:ByteArray,D.atKey kl (.lit (.string ByteArray.empty.data.toList))= .lit (.string s.data.toList)→wpList P ops Q rest (a.put o.dst (.tuple #[.string s, .bool (Maps.has D kl)])) w):
  wpList P ops Q (o::rest) a w:=
 wpList_lookup_own_ok w hg m x t hop k e K ht (plainElem P e) hz (.lit (.string ByteArray.empty.data.toList)) [] (plainElem_string he (by show 0≤_;omega)) b n D hm hown key kl hx gd (fun v ps hv=>by
  obtain⟨s,rfl,h2,_⟩:=plainElem_string_inv he hv
  exact hK s (congrArg Prod.fst h2))
structure bN where
 lba:Int
 hash:ByteArray
def bN.cells (x:bN):List Value:=[.int .i64 x.lba, .string x.hash]
def fN (l:List bN):List Value:=l.flatMap bN.cells
theorem ux (a b:List bN):fN (a++b)=fN a++fN b:=by simp[fN]
def bS (f:Int→Option (List UInt8)) (k:Nat):List bN:=(List.range k).filterMap fun(i:Nat)=>(f (i:Int)).map fun x=>⟨(i:Int),⟨x.toArray⟩⟩
theorem uy {f:Int→Option (List UInt8)} {k:Nat} {x:List UInt8} (h:f (k:Int)=some x):bS f (k+1)=bS f k++[⟨(k:Int),⟨x.toArray⟩⟩]:=by simp[bS,List.range_succ,h]
theorem oN {f:Int→Option (List UInt8)} {k:Nat} (h:f (k:Int)=none):bS f (k+1)=bS f k:=by simp[bS,List.range_succ,h]
theorem xa (f:Int→Option (List UInt8)) (k:Nat):(bS f k).length≤k:=by
 unfold bS
 exact Nat.le_trans (List.length_filterMap_le _ _) (by simp)
theorem lQ (ps B n:Nat) (ep:Int) (D:DataW Unit) (f:Int→Option (List UInt8)) (w:World) (h:iM w ps B n ep D) (hD:jU D f):
  Calls Tryz.prog 204 #[.pointer (some ⟨ps,0,none⟩)] w fun e w'=>(∃vo,e= .returned vo∧w'.ownsRow w.heap.size 63 2 vo (bS f 4096).length (fN (bS f 4096)))∧Below w.heap.size w w':=by
 have HS:=Lib.hid h
 have HD:=Lib.hid hD
 clear h hD
 obtain⟨i0,hi,hz0,hz1,hz2⟩:=info_parts pW
 go_enter Tryz.func204,Tryz.ntmps204
 go_wp2_with fail
 refine(hZ ps B n _ _ _ HS.out).mono ?_
 rintro e w1 ⟨rfl,rfl⟩
 go_wp2_with fail
 go_loopw [3,10] (fun vo i wr=>∃k:Nat,k≤4096∧i= .int .i64 k∧wr.ownsRow w.heap.size 63 2 vo (bS f k).length (fN (bS f k))∧Below w.heap.size w wr) (fun _ i _=>4096-(intOf i).toNat)
 case atStart=>exact⟨0,by omega,rfl,World.ownsRow_nil _ _ _ _,Below.refl _ _⟩
 case round=>
  obtain⟨k,hk,rfl,hvo,hbel⟩:=hrel
  have HV:=Lib.hid hvo
  have HB:=Lib.hid hbel
  have HSR:=Lib.hid (HS.out.below hbel)
  clear hvo hbel
  by_cases hlt:k<4096
  ·have hlt':(k:Int)<4096:=by omega
   have c1:=HSR.out.blk.cell (i:=1) rfl
   have gd:=DY (k:=(k:Int)) (by omega) (by omega)
   obtain⟨q,hq⟩:∃q,f (k:Int)=q:=⟨_,rfl⟩
   cases q with
   |some x=>
    have hhas:Maps.has D (.int .i64 (k:Int))=true:=by rw[HD.out.has,hq];rfl
    have HQ:=Lib.hid hq
    clear hq
    have hlen:=xa f k
    obtain⟨n0,hn0⟩:∃n0,(bS f k).length=n0:=⟨_,rfl⟩
    have HN0:=Lib.hid hn0
    have hn1:n0≤4096:=by omega
    clear hn0 hlen
    have hvo:=HV.out
    rw[HN0.out]at hvo
    have HV2:=Lib.hid hvo
    clear hvo
    go_wp2_with (first
     |(at_lookup;refine gg _ rfl _ _ 276 rfl 3 9 pV Tryz.underlying276 Tryz.underlying9 (rW _) B n D rfl HSR.out.map _ _ rfl gd ?_;intro s hs0;have HSV:=Lib.hid hs0;clear hs0)
     |((with_reducible refine bD 280 63 1 ?parts [.int .i64 (k:Int), .string s] (.agg #[.int .i64 0, .string ByteArray.empty]) 2 24 (some 27) Tryz.underlying280 pW (by omega) (by omega) ?hgd ?ho ?hd ?hf ?_);(case hgd|ho|hd=>rfl);(case hf=>kernel_rfl);(intro g7 w7 l7 B7 e7 z7);(have hb7:=HB.out.trans (e7.mono (Nat.le_trans HB.out.size l7)));(have own7:=own_below (e7.mono l7) HV2.out))
     |(at_builtin;refine wpList_append_own_wide _ rfl _ _ 280 rfl w.heap.size 63 i0 (.agg #[.int .i64 0, .string ByteArray.empty]) 2 24 Tryz.underlying280 hi hz0 hz1 hz2 rfl (by decide) _ n0 _ rfl own7 ⟨g7,0,none⟩ 1 1 [.int .i64 (k:Int), .string s] rfl rfl (cj B7) (by intro v hv;simp at hv;rcases hv with rfl|rfl<;>rfl) (by unfold maxLen;omega) (by omega) hb7.size ?_;intro v' w8 own8 grow8 nil8)
     |fail)
    have hsx:s=⟨x.toArray⟩:=by
     have h1:=HSV.out
     rw[HD.out.val _ _ HQ.out]at h1
     injection h1 with h1
     injection h1 with h1
     exact ak.of (show ak s x from h1.symm)
    go_roundw
    case rel=>
     refine⟨k+1,by omega,by go_num, ?_,fK hb7 own7 grow8 (Nat.le_refl _) hb7.size⟩
     rw[uy HQ.out,ux,List.length_append,HN0.out]
     rw[hsx]at own8
     exact own8
    case measure=>simp[intOf];omega
   |none=>
    have hhas:Maps.has D (.int .i64 (k:Int))=false:=by rw[HD.out.has,hq];rfl
    have HQ:=Lib.hid hq
    clear hq
    go_wp2_with (first
     |(at_lookup;refine gg _ rfl _ _ 276 rfl 3 9 pV Tryz.underlying276 Tryz.underlying9 (rW _) B n D rfl HSR.out.map _ _ rfl gd ?_;intro s hs0;clear hs0)
     |fail)
    go_roundw
    case rel=>
     refine⟨k+1,by omega,by go_num, ?_,HB.out⟩
     rw[oN HQ.out]
     exact HV.out
    case measure=>simp[intOf];omega
  ·obtain rfl:k=4096:=by omega
   go_wp2_with fail
   go_ret
   exact⟨⟨_,rfl,HV.out⟩,HB.out⟩
def pX (x:bN):List UInt8:=beBytes 4 x.lba.toNat++x.hash.data.toList
def nV (x:bN):List UInt8:=de ([0]++pX x)
structure uz (x:bN):Prop where
 l0:0≤x.lba
 l1:x.lba≤4095
 n:x.hash.size=32
theorem ip {x:bN}:(Tryz.prog.info? 63).map (·.size)=some x.cells.length:=by kernel_rfl
theorem uB (x:bN):∀v∈x.cells,v.oneCell'=true:=by intro v hv;simp[bN.cells]at hv;rcases hv with rfl|rfl<;>rfl
theorem uC (w:World):Sem.run Tryz.prog (zeroValue 63) w= .ok (.agg (bN.cells ⟨0,⟨#[]⟩⟩).toArray) w:=by kernel_rfl
theorem lx (n:Int) (w:World) (h0:0≤n) (h1:n≤4095):
  Calls Tryz.prog 356 #[.int .i64 n] w fun e w'=>e= .returned (.bool true)∧w=w':=by
 go_enter Tryz.func356,Tryz.ntmps356
 go_wp2_with fail
 go_ret
 first|exact⟨rfl,rfl⟩|exact⟨cL (by simp;omega),rfl⟩|exact⟨cL (by simp),rfl⟩
theorem oO (x:bN) (w:World) (hx:uz x):
  Calls Tryz.prog 344 #[.agg x.cells.toArray] w fun e w'=>(∃r,e= .returned (.string r)∧ak r (pX x))∧Below w.heap.size w w':=by
 have HX:=Lib.hid hx
 have hn:(x.hash.size:Int)=32:=by have:=hx.n;omega
 clear hx
 go_enter Tryz.func344,Tryz.ntmps344
 go_wp2_with (first
  |((with_reducible refine ai 63 (.tmp 0) x.cells (some 1) ?hgd ?ho ?hd ?hx ?_);(case hgd|ho|hd|hx=>rfl);(intro b1 w1 l1 B1 e1 z1;have q0:=B1.cell (i:=0) rfl;have q1:=B1.cell (i:=1) rfl))
  |fail)
 have HB1:=Lib.hid B1
 have HBE1:=Lib.hid (e1.mono l1)
 clear B1 e1 z1 l1
 refine(lx x.lba _ HX.out.l0 HX.out.l1).mono ?_
 rintro e w' ⟨rfl,rfl⟩
 go_wp2_with fail
 obtain⟨k,hk⟩:∃k:Nat,x.lba=(k:Int):=⟨x.lba.toNat,by have:=HX.out.l0;omega⟩
 rw[hk]
 refine(mC k 4 _ (by decide) (by decide) (by have:=HX.out.l1;omega) (fun _=>by have:=HX.out.l1;simp;omega)).mono ?_
 rintro e w2 ⟨r,rfl,tr,hb2⟩
 have HTR:=Lib.hid tr
 have hr:r.size=4:=by rw[tr.size,beBytes_length]
 have HR:=Lib.hid hr
 have HBE2:=Lib.hid (HBE1.out.trans (hb2.mono HBE1.out.size))
 have q1:=(HB1.out.below hb2 HB1.out.lt).cell (i:=1) rfl
 have hsz:(r.size:Int)+(x.hash.size:Int)≤100:=by omega
 clear hb2 tr hr
 go_wp2_with fail
 go_ret
 refine⟨⟨_,rfl,(HTR.out.append (ak.self x.hash)).cast ?_⟩,HBE2.out⟩
 unfold pX
 rw[show x.lba.toNat=k by omega]
theorem zn (s:ByteArray) (w:World) (hs:s.size≤1000000):
  Calls Tryz.prog 381 #[.string s] w fun e w'=>(∃r,e= .returned (.string r)∧ak r (de ([0]++s.data.toList)))∧Below w.heap.size w w':=by
 go_enter Tryz.func381,Tryz.ntmps381
 go_wp2_with fail
 refine(rE ⟨#[0]⟩ s _ _ (by show 1+s.size≤_;omega)).mono ?_
 rintro e w1 ⟨r,rfl,tr,hb⟩
 go_wp2_with fail
 go_ret
 exact⟨⟨r,rfl,tr⟩,hb⟩
theorem zo (x:bN) (w:World) (hx:uz x):
  Calls Tryz.prog 347 #[.agg x.cells.toArray] w fun e w'=>(∃r,e= .returned (.string r)∧ak r (nV x))∧Below w.heap.size w w':=by
 have HX:=Lib.hid hx
 clear hx
 go_enter Tryz.func347,Tryz.ntmps347
 go_wp2_with (first
  |((with_reducible refine ai 63 (.tmp 0) x.cells (some 1) ?hgd ?ho ?hd ?hx ?_);(case hgd|ho|hd|hx=>rfl);(intro b1 w1 l1 B1 e1 z1))
  |((with_reducible refine au 63 (.tmp 1) b1 x.cells 63 _ B1 Tryz.underlying63 rfl ip ?hgd ?ho ?hx ?_);(case hgd|ho|hx=>rfl))
  |fail)
 have HBE1:=Lib.hid (e1.mono l1)
 clear B1 e1 z1 l1
 refine(oO x _ HX.out).mono ?_
 rintro e w2 ⟨⟨s,rfl,ts⟩,hb2⟩
 have HTS:=Lib.hid ts
 have HBE2:=Lib.hid (HBE1.out.trans (hb2.mono HBE1.out.size))
 clear ts hb2
 go_wp2_with fail
 refine(zn s _ (by rw[HTS.out.size];unfold pX;rw[List.length_append,beBytes_length,show x.hash.data.toList.length=x.hash.size from rfl];have:=HX.out.n;omega)).mono ?_
 rintro e w3 ⟨⟨r,rfl,tr⟩,hb3⟩
 have HTR:=Lib.hid (show ak r (nV x)from tr.cast (by unfold nV;rw[show s.data.toList= _ from HTS.out]))
 have HBE3:=Lib.hid (HBE2.out.trans (hb3.mono HBE2.out.size))
 clear tr hb3
 go_wp2_with fail
 go_ret
 exact⟨⟨r,rfl,HTR.out⟩,HBE3.out⟩
theorem uD (l:List bN):(fN l).length=l.length*2:=by
 induction l with
 |nil=>rfl
 |cons a r ih=>show(a.cells++fN r).length= _;rw[List.length_append,ih,List.length_cons];show 2+_= _;omega
theorem D1 (l:List bN):∀(j:Nat) (p:bN),l[j]?=some p→(fN l)[j*2]?=some (.int .i64 p.lba)∧(fN l)[j*2+1]?=some (.string p.hash):=by
 induction l with
 |nil=>intro j p h;simp at h
 |cons a r ih=>
  intro j p h
  have ha:a.cells.length=2:=rfl
  cases j with
  |zero=>simp at h;subst h;exact⟨rfl,rfl⟩
  |succ j=>
   have:=ih j p (by simpa using h)
   show(a.cells++fN r)[(j+1)*2]?= _∧(a.cells++fN r)[(j+1)*2+1]?= _
   rw[List.getElem?_append_right (by omega),List.getElem?_append_right (by omega),ha,show(j+1)*2-2=j*2 by omega,show(j+1)*2+1-2=j*2+1 by omega]
   exact this
theorem yF {w:World} {g:Nat} {l:List bN} {z:List Value} {t:TypeId} (h:ac w g (fN l++z) t) {m:Nat} {x:bN} (hx:l[m]?=some x):w.rangeAt g (m*2) x.cells:=by
 have hl:=(List.getElem?_eq_some_iff.1 hx).1
 have hf:=D1 l m x hx
 have h3:=uD l
 intro j u hu
 match j,hu with
 |0,hu=>simp[bN.cells]at hu;subst hu;exact h.cell (by rw[List.getElem?_append_left (by omega)];exact hf.1)
 |1,hu=>simp[bN.cells]at hu;subst hu;exact h.cell (by rw[List.getElem?_append_left (by omega)];exact hf.2)
 |j+2,hu=>simp[bN.cells]at hu
structure mo (l:List bN):Prop where
 each:∀(j:Nat) (x:bN),l[j]?=some x→uz x
 rise:∀(i j:Nat) (x y:bN),l[i]?=some x→l[j]?=some y→i<j→x.lba<y.lba
theorem uE (x:bN):(nV x).length=32:=cJ _
def gC (w:World) (p:Option Addr) (n:Nat) (l:List bN):Prop:=l.length=n∧(0<n→∃g z,p=some ⟨g,0,none⟩∧ac w g (fN l++z) 63)
theorem gC.below {w w':World} {p:Option Addr} {n:Nat} {l:List bN} (h:gC w p n l) (hb:Below w.heap.size w w'):gC w' p n l:=
 ⟨h.1,fun hn=>by obtain⟨g,z,h1,h2⟩:=h.2 hn;exact⟨g,z,h1,h2.below hb h2.lt⟩⟩
theorem gC.own {w:World} {base n:Nat} {vo:Value} {l:List bN} (h:w.ownsRow base 63 2 vo n (fN l)) (hl:l.length=n):∃p c,vo= .slice p n c∧gC w p n l:=by
 obtain⟨p,c,hv⟩:=aQ h
 refine⟨p,c,hv,hl,fun hn=> ?_⟩
 obtain⟨g,cap,z,he,_,_,hk⟩:=dA h hn
 rw[hv]at he
 injection he with he
 exact⟨g,z,he,hk⟩
def uF (l:List bN) (k:Nat):Int:=if k=0 then -1 else(l.getD (k-1) ⟨0,⟨#[]⟩⟩).lba
theorem xc (p:Option Addr) (n c:Nat) (l:List bN) (w:World) (h:gC w p n l) (ok:mo l) (hn:n≤4096):
  Calls Tryz.prog 284 #[.slice p n c] w fun e w'=>e= .returned (.int .i64 0)∧Below w.heap.size w w':=by
 have HR:=Lib.hid h
 have HOK:=Lib.hid ok
 have HN:=Lib.hid h.1
 clear h ok
 go_enter Tryz.func284,Tryz.ntmps284
 go_wp2_with fail
 go_loopw [3,8] (fun v3 i wr=>∃k:Nat,k≤n∧i= .int .i64 k∧v3= .int .i64 (uF l k)∧Hid (Below w.heap.size w wr)) (fun _ i _=>n-(intOf i).toNat)
 case atStart=>exact⟨0,Nat.zero_le _,rfl,rfl,Lib.hid (Below.refl _ _)⟩
 case round=>
  obtain⟨k,hk,rfl,rfl,HBE⟩:=hrel
  by_cases hlt:k<n
  ·have hlt':(k:Int)<(n:Int):=by omega
   obtain⟨g,z,hp,hG⟩:=(HR.out.below HBE.out).2 (by omega)
   subst hp
   have HG:=Lib.hid hG
   obtain⟨x,hx⟩:∃x,l[k]?=some x:=⟨_,List.getElem?_eq_getElem (by have:=HN.out;omega)⟩
   have HX:=Lib.hid hx
   have HLO:=Lib.hid (HOK.out.each k x hx)
   have hwl:uF l k<x.lba:=by
    unfold uF
    by_cases h0:k=0
    ·rw[if_pos h0];have:=HLO.out.l0;omega
    ·rw[if_neg h0]
     obtain⟨y,hy⟩:∃y,l[k-1]?=some y:=⟨_,List.getElem?_eq_getElem (by have:=HN.out;omega)⟩
     rw[List.getD,hy]
     exact HOK.out.rise (k-1) k y x hy hx (by omega)
   obtain⟨wa,hwa⟩:∃wa,uF l k=wa:=⟨_,rfl⟩
   rw[hwa]at hwl
   have HWA:=Lib.hid hwa
   rw[hwa]
   have hle:¬x.lba≤wa:=by omega
   have HRX:=Lib.hid (yF HG.out HX.out)
   clear hwa hG hx hwl
   go_wp2_with (first
    |((with_reducible refine ag 63 (.tmp 10) g (k*2) x.cells _ (some 11) HRX.out Tryz.underlying63 rfl ip ?hg ?ho ?hds ?hx ?_);(case ho|hg|hds|hx=>rfl))
    |((with_reducible refine af 63 _ uC (some 5) ?hgd ?ho ?hd ?_);(case hgd|ho|hd=>rfl);(intro b5 w5 l5 B5 e5 z5))
    |((with_reducible refine ae 63 (.tmp 5) (.tmp 11) b5 (bN.cells ⟨0,⟨#[]⟩⟩) x.cells 63 B5 rfl ip (uB _) ?hgd ?ho ?hx ?hy ?_);(case hgd|ho|hx|hy=>rfl);(intro w6 B6 o6;have q0:=B6.cell (i:=0) rfl;have q1:=B6.cell (i:=1) rfl))
    |((with_reducible refine ag 63 (.tmp 5) b5 0 x.cells _ (some 17) B6.range Tryz.underlying63 rfl ip ?hg ?ho ?hds ?hx ?_);(case ho|hg|hds|hx=>rfl))
    |fail)
   have HB6:=Lib.hid B6
   have HBE6:=Lib.hid (show Below w.heap.size w w6 from o6.below (HBE.out.trans (e5.mono (Nat.le_trans HBE.out.size l5))) (Nat.le_trans HBE.out.size l5))
   clear B5 B6 e5 z5 o6 l5 q0 q1
   refine(oO x _ HLO.out).mono ?_
   rintro e w7 ⟨⟨r,rfl,tr⟩,hb7⟩
   have hre:(r.toList==([]:List UInt8))=false:=by
    rw[beq_eq_false_iff_ne,tr.toList]
    intro e
    have:=congrArg List.length e
    unfold pX at this
    rw[List.length_append,beBytes_length]at this
    simp at this
   have q0:=(HB6.out.below hb7 HB6.out.lt).cell (i:=0) rfl
   have HBE7:=Lib.hid (HBE6.out.trans (hb7.mono HBE6.out.size))
   clear hb7 tr
   go_wp2_with fail
   go_roundw
   case rel=>exact⟨k+1,by omega,by go_num,by unfold uF;rw[if_neg (by omega),Nat.add_sub_cancel,List.getD,HX.out];rfl,HBE7⟩
   case measure=>simp[intOf];omega
  ·obtain rfl:k=n:=by omega
   go_wp2_with fail
   go_ret
   exact⟨rfl,HBE.out⟩
def f7 (l:List bN):List ByteArray:=l.map fun x=>⟨(nV x).toArray⟩
theorem rX:(Tryz.prog.info? 9).map (fun i=>(i.zero,i.size,i.bytes))=some (some (.string ⟨#[]⟩),1,16):=by kernel_rfl
theorem uG (p:Option Addr) (n c:Nat) (l:List bN) (w:World) (h:gC w p n l) (ok:mo l) (hn:n≤4096):
  Calls Tryz.prog 286 #[.slice p n c] w fun e w'=>(∃vo,e= .returned vo∧w'.ownsRow w.heap.size 9 1 vo n ((f7 l).map .string))∧Below w.heap.size w w':=by
 obtain⟨i0,hi,hz0,hz1,hz2⟩:=info_parts rX
 have HR:=Lib.hid h
 have HOK:=Lib.hid ok
 have HN:=Lib.hid h.1
 have HNB:=Lib.hid hn
 clear h ok
 go_enter Tryz.func286,Tryz.ntmps286
 go_wp2_with fail
 go_loopw [3,8] (fun vo i wr=>∃k:Nat,k≤n∧i= .int .i64 k∧Hid (wr.ownsRow w.heap.size 9 1 vo k ((f7 (l.take k)).map .string))∧Hid (Below w.heap.size w wr)) (fun _ i _=>n-(intOf i).toNat)
 case atStart=>exact⟨0,Nat.zero_le _,rfl,Lib.hid (World.ownsRow_nil _ _ _ _),Lib.hid (Below.refl _ _)⟩
 case round=>
  obtain⟨k,hk,rfl,HO,HBE⟩:=hrel
  by_cases hlt:k<n
  ·have hlt':(k:Int)<(n:Int):=by omega
   obtain⟨g,z,hp,hG⟩:=(HR.out.below HBE.out).2 (by omega)
   subst hp
   have HG:=Lib.hid hG
   obtain⟨x,hx⟩:∃x,l[k]?=some x:=⟨_,List.getElem?_eq_getElem (by have:=HN.out;omega)⟩
   have HX:=Lib.hid hx
   have HLO:=Lib.hid (HOK.out.each k x hx)
   have HRX:=Lib.hid (yF HG.out HX.out)
   have HL1:=Lib.hid (show k+1≤maxLen from by have:=HNB.out;unfold maxLen;omega)
   have HL2:=Lib.hid (show(k+1)*16≤140737488355328 from by have:=HNB.out;omega)
   clear hG hx
   obtain⟨hs,hhs⟩:∃hs,(f7 (l.take k)).map Value.string=hs:=⟨_,rfl⟩
   rw[hhs]at HO
   have HHS:=Lib.hid hhs
   clear hhs
   go_wp2_with (first
    |((with_reducible refine ag 63 (.tmp 10) g (k*2) x.cells _ (some 11) HRX.out Tryz.underlying63 rfl ip ?hg ?ho ?hds ?hx ?_);(case ho|hg|hds|hx=>rfl))
    |((with_reducible refine af 63 _ uC (some 5) ?hgd ?ho ?hd ?_);(case hgd|ho|hd=>rfl);(intro b5 w5 l5 B5 e5 z5))
    |((with_reducible refine ae 63 (.tmp 5) (.tmp 11) b5 (bN.cells ⟨0,⟨#[]⟩⟩) x.cells 63 B5 rfl ip (uB _) ?hgd ?ho ?hx ?hy ?_);(case hgd|ho|hx|hy=>rfl);(intro w6 B6 o6))
    |((with_reducible refine au 63 (.tmp 5) b5 x.cells 63 _ B6 Tryz.underlying63 rfl ip ?hgd ?ho ?hx ?_);(case hgd|ho|hx=>rfl))
    |fail)
   have hb6:Below wr.heap.size wr w6:=o6.below (e5.mono l5) l5
   have HBE6:=Lib.hid (HBE.out.trans (hb6.mono HBE.out.size))
   have HO6:=Lib.hid (own_below hb6 HO.out)
   clear B5 B6 e5 z5 o6 l5 hb6
   refine(zo x _ HLO.out).mono ?_
   rintro e w7 ⟨⟨r,rfl,tr⟩,hb7⟩
   have HTR:=Lib.hid tr
   have HBE7:=Lib.hid (HBE6.out.trans (hb7.mono HBE6.out.size))
   have HO7:=Lib.hid (own_below hb7 HO6.out)
   clear hb7 tr
   go_wp2_with (first
    |((with_reducible refine bD 64 9 1 ?parts15 [.string r] (.string ⟨#[]⟩) 1 16 (some 15) Tryz.underlying64 rX (by omega) (by omega) ?hgd ?ho ?hd ?hf ?_);(case hgd|ho|hd=>rfl);(case hf=>kernel_rfl);(intro g8 w8 l8 B8 e8 z8;have HB8:=Lib.hid B8;have HBE8:=Lib.hid (HBE7.out.trans (e8.mono (Nat.le_trans HBE7.out.size l8)));have HO8:=Lib.hid (own_below (e8.mono l8) HO7.out)))
    |(at_builtin;refine wpList_append_own_wide _ rfl _ _ 64 rfl w.heap.size 9 i0 (.string ⟨#[]⟩) 1 16 Tryz.underlying64 hi hz0 hz1 hz2 rfl (by decide) _ k hs rfl HO8.out ⟨g8,0,none⟩ 1 1 [.string r] rfl rfl (cj HB8.out) (by intro v hv;simp at hv;subst hv;rfl) (by have:=HL1.out;exact this) (by have:=HL2.out;omega) HBE8.out.size ?_;intro v' w9 own9 grow9 nil9)
    |fail)
   go_roundw
   case rel=>
    refine⟨k+1,by omega,by go_num,Lib.hid ?_,Lib.hid (fK HBE8.out HO8.out grow9 (Nat.le_refl _) HBE8.out.size)⟩
    have he:(f7 (l.take (k+1))).map Value.string=(f7 (l.take k)).map Value.string++[.string r]:=by
     obtain⟨h1,h2⟩:=List.getElem?_eq_some_iff.1 HX.out
     unfold f7
     rw[List.take_succ_eq_append_getElem h1,List.map_append,List.map_append,h2]
     simp only[List.map_cons,List.map_nil]
     rw[HTR.out.of]
    rw[he,HHS.out]
    exact own9
   case measure=>simp[intOf];omega
  ·obtain rfl:k=n:=by omega
   go_wp2_with fail
   go_ret
   refine⟨⟨_,rfl, ?_⟩,HBE.out⟩
   have:=HO.out
   rw[List.take_of_length_le (by rw[HN.out];exact Nat.le_refl _)]at this
   exact this
theorem xd (s:ByteArray) (w:World) (h:s.size=32):
  Calls Tryz.prog 378 #[.string s] w fun e w'=>e= .returned (.bool false)∧w=w':=by
 have hs:(s.size:Int)=32:=by omega
 go_enter Tryz.func378,Tryz.ntmps378
 go_wp2_with fail
 go_ret
 first|exact⟨rfl,rfl⟩|exact⟨cL (by simp[hs]),rfl⟩
theorem qX (p:Option Addr) (n c:Nat) (xs:List ByteArray) (w:World) (h:w.ownsRow 0 9 1 (.slice p n c) n (xs.map .string)) (hl:xs.length=n) (hs:∀x∈xs,x.size=32) (hn:n≤4096):
  Calls Tryz.prog 395 #[.slice p n c, .func (.func 378) #[] #[]] w fun e w'=>e= .returned (.int .i64 (-1))∧w=w':=by
 have HR:=Lib.hid h
 have HS:=Lib.hid hs
 have HL:=Lib.hid hl
 clear h hs hl
 go_enter Tryz.func395,Tryz.ntmps395
 go_wp2_with fail
 go_loopw [8] (fun i wr=>∃k:Nat,k≤n∧i= .int .i64 k∧wr=w) (fun i _=>n-(intOf i).toNat)
 case atStart=>exact⟨0,Nat.zero_le _,rfl,rfl⟩
 case round=>
  obtain⟨k,hk,rfl,rfl⟩:=hrel
  by_cases hlt:k<n
  ·have hlt':(k:Int)<(n:Int):=by omega
   obtain⟨g,cap,z,he,_,_,hG⟩:=dA HR.out (by omega)
   injection he with he1 _ he3
   subst he1
   obtain⟨x,hx⟩:∃x,xs[k]?=some x:=⟨_,List.getElem?_eq_getElem (by have:=HL.out;omega)⟩
   have hc:wr.cell? ⟨g,k,none⟩=some (.string x):=hG.cell (by rw[List.getElem?_append_left (by rw[List.length_map];have:=HL.out;omega),List.getElem?_map,hx];rfl)
   have hx32:=HS.out x (List.mem_of_getElem? hx)
   clear hG hx he3
   go_wp2_with fail
   refine(xd x _ hx32).mono ?_
   rintro e w' ⟨rfl,rfl⟩
   go_wp2_with fail
   go_roundw
   case rel=>exact⟨k+1,by omega,by go_num,by first|rfl|trivial⟩
   case measure=>simp[intOf];omega
  ·obtain rfl:k=n:=by omega
   go_wp2_with fail
   go_ret
   exact⟨rfl,rfl⟩
theorem zp (p:Option Addr) (n c:Nat) (xs:List ByteArray) (w:World) (h:w.ownsRow 0 9 1 (.slice p n c) n (xs.map .string)) (hl:xs.length=n) (hs:∀x∈xs,x.size=32) (hn:n≤4096):
  Calls Tryz.prog 345 #[.slice p n c] w fun e w'=>e= .returned (.bool true)∧w=w':=by
 go_enter Tryz.func345,Tryz.ntmps345
 go_wp2_with fail
 refine Calls.mono (show Calls Tryz.prog 377 #[.slice p n c, .func (.func 378) #[] #[]] _ (fun e w'=>e= .returned (.bool false)∧w=w')from ?_) ?_
 ·go_enter Tryz.func377,Tryz.ntmps377
  go_wp2_with fail
  refine(qX p n c xs _ h hl hs hn).mono ?_
  rintro e w' ⟨rfl,rfl⟩
  go_wp2_with fail
  go_ret
  exact⟨rfl,rfl⟩
 rintro e w' ⟨rfl,rfl⟩
 go_wp2_with fail
 go_ret
 exact⟨rfl,rfl⟩
attribute [local go_sem] Go.Oper.semAt_some
theorem pY {P:Program} {m:Nat} {c:Code} {Q:Exit→Act→World→Prop} {a:Act} {w:World} (h:c.wpIn Fence.wide m P (Exit.noGoto Q) a w):(Code.scope c).wpIn Fence.wide m P Q a w:=
 wpIn_wide.2 (wp_scope_straight (wpIn_wide.1 h))
theorem xe (p:Option Addr) (n c:Nat) (w:World):
  Calls Tryz.prog 346 #[.slice p n c] w fun e w'=>∃b,e= .returned (.func (.func 379) #[] #[.pointer (some ⟨b,0,none⟩)])∧ac w' b [.slice p n c] 64∧w.heap.size≤b∧Below w.heap.size w w':=by
 have hmf:∀(fn:Fn) (first cap:Array Value) (w:World),(Instr.makeFunc fn first cap).run Tryz.prog w= .ok (.func fn first cap) w:=fun _ _ _ _=>rfl
 go_enter Tryz.func346,Tryz.ntmps346
 go_wp2_with (first
  |((with_reducible refine aw 64 (.tmp 0) (.slice p n c) rfl (some 1) ?hgd ?ho ?hd ?hx ?_);(case hgd|ho|hd|hx=>rfl);(intro bm w1 l1 B1 e1 z1))
  |fail)
 go_ret
 exact⟨bm,rfl,B1,l1,e1.mono l1⟩
def mp (p:Option Addr) (n c:Nat) (_:Unit):Array Value:=#[.slice p n c]
theorem zq (m:Nat) (hm:1≤m) (b n₀:Nat) (p:Option Addr) (n c:Nat) (hn:n≤1) (r:Nat) (J Jx:List Unit→World→Prop) (W:World) (hb:ac W b [.slice p n c] 64)
  (hJ0:J [] W)
  (hY:∀pre x W1,J pre W1→pre.length<1→YieldAt Fence.wide (m-1) Tryz.prog r (mp p n c x) W1 fun e W'=>
   (e= .returned (.bool true)∧J (pre++[x]) W'∧Below n₀ W1 W')∨(e= .returned (.bool false)∧Jx (pre++[x]) W')):
  CallsIn Fence.wide m Tryz.prog 379 #[.func (.yield r) #[] #[], .pointer (some ⟨b,0,none⟩)] W fun e W'=>(∃v,e= .returned v)∧
   ((∃xs,(∃x,xs=[x])∧J xs W')∨(∃pre,(∃x,pre=[x])∧Jx pre W')):=by
 have cb:=hb.cell (i:=0) rfl
 have hn1:¬¬(n:Int)<2:=by omega
 obtain⟨fn,tmps,assign,body,hy,hR⟩:=hY [] () W hJ0 (by simp)
 dsimp only[mp]at hy
 have HR:=Lib.hid hR
 clear hR hY hJ0
 refine callsIn_of_wp Tryz.func379 rfl trivial ?_ rfl
 simp only[Tryz.ntmps379,List.size_toArray,List.length_cons,List.length_nil,Nat.reduceAdd,Nat.reduceSub,Array.replicate_succ,Array.replicate_zero,List.push_toArray,List.append_toArray,List.nil_append,List.cons_append]
 gi_wp2_with fail
 refine pY ?_
 gi_wp2_with fail
 refine wpIn_label ?_
 gi_wp2_with fail
 refine wpIn_loop_once ?_
 gi_wp2_with fail
 refine HR.out.mono ?_
 rintro e W3 (⟨rfl,hJ3,hk3⟩|⟨rfl,hJx3⟩)
 ·gi_wp2_with fail
  rw[Exit.noGoto_normal]
  refine bodyPost_end (results_none rfl _ _ _) rfl ?_
  exact⟨⟨_,rfl⟩, .inl ⟨_,⟨_,rfl⟩,hJ3⟩⟩
 ·gi_wp2_with fail
  rw[Exit.noGoto_normal]
  refine bodyPost_end (results_none rfl _ _ _) rfl ?_
  exact⟨⟨_,rfl⟩, .inr ⟨_,⟨_,rfl⟩,hJx3⟩⟩
theorem uH (m:Nat) (hm:1≤m) (b n₀:Nat) (p:Option Addr) (n c:Nat) (hn:n≤1) (w:World) (hb:ac w b [.slice p n c] 64):
  SeqStopsK Fence.wide m Tryz.prog 379 #[.pointer (some ⟨b,0,none⟩)] (mp p n c) (Below n₀) (fun xs=>∃x,xs=[x]) (fun pre=>∃x,pre=[x]) 1 w:=by
 intro r J Jx W hW hJ hJx hY h0
 exact zq m hm b n₀ p n c hn r J Jx W (hb.below hW hb.lt) h0 hY
def ET:List ByteArray→List UInt8
 |[]=>de []
 |x::_=>x.data.toList
def yG (s:ByteArray) (xs:List ByteArray) (k:Nat):ByteArray:=if k=0 then s else xs.headD s
theorem ac.iceless {w w':World} {b:Nat} {c:List Value} {t:TypeId} {row:Option Nat} (h:ac w b c t) (hg:w.grownBy w' row) (hr:∀r,row=some r→∃o:Obj,w.heap[r]?=some o∧o.isCells=false):ac w' b c t:=by
 refine h.grown hg ?_
 intro e
 obtain⟨o,h1,h2⟩:=hr b e.symm
 unfold ac at h
 rw[h]at h1
 injection h1 with h1
 subst h1
 cases h2
theorem zr (W:World):KeepsOthers W W:=KeepsOthers.of_grownBy (below_grown (Below.refl _ _)) (fun j o e=>by cases e)
theorem zt (p:Option Addr) (n c:Nat) (xs:List ByteArray) (w:World) (h:w.ownsRow 0 9 1 (.slice p n c) n (xs.map .string)) (hl:xs.length=n) (hs:∀x∈xs,x.size=32) (hn:n≤1):
  Calls Tryz.prog 285 #[.slice p n c] w fun e w'=>(∃s,e= .returned (.tuple #[.string s, .int .i64 0])∧ak s (ET xs))∧Below w.heap.size w w':=by
 have HO:=Lib.hid h
 have HL:=Lib.hid hl
 have HS:=Lib.hid hs
 clear h hl hs
 refine(callsIn_wide (n:=4)).1 ?_
 refine callsIn_of_wp_marks Tryz.func285 rfl trivial ?_ rfl
 simp only[Tryz.ntmps285,List.size_toArray,List.length_cons,List.length_nil,Nat.reduceAdd,Nat.reduceSub,Array.replicate_succ,Array.replicate_zero,List.push_toArray,List.append_toArray,List.nil_append,List.cons_append]
 gi_wp2_with (first
  |(refine⟨trivial, ?_⟩;gi_at_call 345;refine(callsIn_wide.2 (zp p n c xs _ HO.out HL.out HS.out (by omega))).mono ?_;rintro e w1 ⟨rfl,rfl⟩)
  |(refine⟨trivial, ?_⟩;gi_at_call 252;refine(callsIn_wide.2 (uj none 0 _)).mono ?_;rintro e w2 ⟨s0,rfl,ts0,hb2⟩;have HTS:=Lib.hid ts0;have HB2:=Lib.hid hb2;clear ts0 hb2)
  |(refine⟨trivial, ?_⟩;gi_at_call 346;refine(callsIn_wide.2 (xe p n c _)).mono ?_;rintro e wA ⟨bl,rfl,BL,lL,hbA⟩;have HBL:=Lib.hid BL;have HLL:=Lib.hid lL;have HBA:=Lib.hid hbA;clear BL lL hbA)
  |fail)
 obtain⟨b4,hb4⟩:∃b4,b4=w2.heap.size:=⟨_,rfl⟩
 rw[←hb4]
 have hB4:ac (w2.alloc (Obj.cells #[.string s0] 9)) b4 [.string s0] 9:=by rw[hb4];exact ac.new w2 [.string s0] 9
 have HB4:=Lib.hid (hB4.below HBA.out hB4.lt)
 have hbw:Below w.heap.size w (w2.alloc (Obj.cells #[.string s0] 9)):=HB2.out.trans (((Below.refl _ _).alloc (Nat.le_refl _) _).mono HB2.out.size)
 have HWA:=Lib.hid (hbw.trans (HBA.out.mono hbw.size))
 have h4w:w.heap.size≤b4:=by rw[hb4];exact HB2.out.size
 clear hB4 hbw HB2 HBA hb4 HLL
 have hA:w.heap.size≤wA.heap.size:=HWA.out.size
 refine wpIn_rangeFunc_ownF rfl (by omega) (gf:=379) (lb:=#[.pointer (some ⟨bl,0,none⟩)]) rfl trivial (enters_of Tryz.func379 (by kernel_rfl) rfl)
  (uH (4-1) (by omega) bl w.heap.size p n c hn wA HBL.out) belowK_t (belowK_b hA) (Below.refl _ _) (fun _=>rfl)
  (fun pre W=>ac W b4 [.string (yG s0 xs pre.length)] 9∧Below w.heap.size w W)
  (fun jc pre W=>False)
  (OwnFrom.and (Own.from (fun s A B row hs hg hr=>hs.iceless hg hr) _) (ownFrom_below (Nat.le_refl _) hA))
  (fun jc s W W' row h=>h.elim)
  ⟨HB4.out,HWA.out⟩
  (fun x=>{tmps:=#[.slice p n c,undef, .string ⟨#[]⟩, .int .i64 0, .pointer (some ⟨b4,0,none⟩), .slice p n c, .slice p n c, .bool true, .bool false, .string s0, .slice p n c, .func (.func 379) #[] #[.pointer (some ⟨bl,0,none⟩)], .slice p n c,undef,undef,undef,undef,undef,undef,undef],defers:=[]}) ?assign ?body ?done ?stop
 case assign=>
  intro r x W K hK
  dsimp only[mp]
  gi_wp2
  exact hK
 case body=>
  rintro r pre x W ⟨hb4,hB⟩ hlen
  obtain rfl:pre=[]:=List.eq_nil_of_length_eq_zero (by omega)
  have z4:=hb4.cell (i:=0) rfl
  have f4:=hb4.free 0
  rcases Nat.lt_or_ge 0 n with hp|hp
  ·obtain rfl:n=1:=by omega
   obtain⟨x0,rfl⟩:∃x0,xs=[x0]:=by
    rcases xs with _|⟨x0,_|⟨_,_⟩⟩
    ·have:=HL.out;simp at this
    ·exact⟨x0,rfl⟩
    ·have:=HL.out;simp at this
   obtain⟨g,cap,z,he,_,_,hk⟩:=dA HO.out (by omega)
   injection he with he _ _
   subst he
   have cg:=(hk.below hB hk.lt).cell (i:=0) rfl
   gi_wp2_with fail
   refine⟨KeepsOthers.setCell _ _ _,(Below.refl _ _).setCell (p:=⟨b4,0,none⟩) (by show w.heap.size≤b4;exact h4w) _, ?_,hB.setCell (p:=⟨b4,0,none⟩) (by show w.heap.size≤b4;exact h4w) _⟩
   exact hb4.set 0 (.string x0)
  ·obtain rfl:n=0:=by omega
   obtain rfl:xs=[]:=List.eq_nil_of_length_eq_zero HL.out
   gi_wp2_with fail
   exact⟨zr W,Below.refl _ _,hb4,hB⟩
 case done=>
  rintro D ys W hD ⟨x,rfl⟩ ⟨hb4,hB⟩ hK
  have z4:=hb4.cell (i:=0) rfl
  gi_wp2_with fail
  refine⟨by simp, .inl ⟨_,_,rfl,run_takeDeferred hK, ?_⟩⟩
  refine⟨.tuple #[.string (yG s0 xs 1), .int .i64 0], ?_,⟨_,rfl, ?_⟩,hB.trans (belowK_b (w:=w) (Nat.le_refl _) W D _ _ (by omega) hK rfl rfl)⟩
  ·simp[results,Tryz.f285,go_sem]
  ·rcases xs with _|⟨x0,xs⟩
   ·exact HTS.out
   ·rfl
 case stop=>
  rintro D jc pre W hD hpre h hK
  exact h.elim
theorem Fq {w:World} {base n size:Nat} {e:TypeId} {v:Value} {xs:List Value} (h:w.ownsRow base e size v n xs):w.ownsRow 0 e size v n xs:=by
 rcases h with⟨h1,h2⟩
 refine⟨h1, ?_⟩
 rcases h2 with h2|⟨g,cap,cur,a,b,c⟩
 ·exact .inl h2
 ·exact .inr ⟨g,cap,cur,a,Nat.zero_le _,c⟩
def jE (f:Int→Option (List UInt8)):Prop:=∀k x,f k=some x→x.length=32
theorem jE.none:jE (fun _=>Option.none):=fun k x h=>by cases h
theorem jE.put {f:Int→Option (List UInt8)} (h:jE f) (k:Int) (x:List UInt8) (hx:x.length=32):jE (fun j=>if j=k then some x else f j):=by
 intro j y hy
 by_cases hj:j=k
 ·simp only[if_pos hj]at hy;obtain rfl:=Option.some.inj hy;exact hx
 ·simp only[if_neg hj]at hy;exact h j y hy
theorem uI {f:Int→Option (List UInt8)} {k:Nat} {x:bN} (h:x∈bS f k):∃i:Nat,i<k∧∃y,f (i:Int)=some y∧x=⟨(i:Int),⟨y.toArray⟩⟩:=by
 unfold bS at h
 obtain⟨i,hi,h2⟩:=List.mem_filterMap.1 h
 refine⟨i,List.mem_range.1 hi, ?_⟩
 cases hf:f (i:Int)with
 |none=>rw[hf]at h2;cases h2
 |some y=>rw[hf]at h2;exact⟨y,rfl,(Option.some.inj h2).symm⟩
theorem sN (f:Int→Option (List UInt8)) (k:Nat):(bS f k).Pairwise fun x y=>x.lba<y.lba:=by
 unfold bS
 rw[List.pairwise_filterMap]
 refine List.Pairwise.imp ?_ List.pairwise_lt_range
 intro i j hij x hx y hy
 cases hf:f (i:Int)with
 |none=>rw[hf]at hx;cases hx
 |some u=>
  cases hg:f (j:Int)with
  |none=>rw[hg]at hy;cases hy
  |some v=>
   rw[hf]at hx;rw[hg]at hy
   obtain rfl:=Option.some.inj hx
   obtain rfl:=Option.some.inj hy
   show(i:Int)<(j:Int)
   omega
theorem xf {f:Int→Option (List UInt8)} (h:jE f) (k:Nat) (hk:k≤4096):mo (bS f k) where
 each j x hj:=by
  obtain⟨i,hi,y,hy,rfl⟩:=uI (List.mem_of_getElem? hj)
  exact⟨by show(0:Int)≤(i:Int);omega,by show(i:Int)≤4095;omega,by show y.toArray.size=32;simpa using h _ _ hy⟩
 rise i j x y hi hj hij:=by
  obtain⟨h1,rfl⟩:=List.getElem?_eq_some_iff.1 hi
  obtain⟨h2,rfl⟩:=List.getElem?_eq_some_iff.1 hj
  exact List.pairwise_iff_getElem.1 (sN f k) i j h1 h2 hij
def EU (l:List bN):List UInt8:=ET (f7 l)
theorem zu (p:Option Addr) (n c:Nat) (l:List bN) (w:World) (h:gC w p n l) (ok:mo l) (hn:n≤1):
  Calls Tryz.prog 203 #[.slice p n c] w fun e w'=>(∃s,e= .returned (.tuple #[.string s, .int .i64 0])∧ak s (EU l))∧Below w.heap.size w w':=by
 have HR:=Lib.hid h
 have HOK:=Lib.hid ok
 clear h ok
 go_enter Tryz.func203,Tryz.ntmps203
 go_wp2_with fail
 refine(xc p n c l _ HR.out HOK.out (by omega)).mono ?_
 rintro e w1 ⟨rfl,hb1⟩
 have HB1:=Lib.hid hb1
 have HR1:=Lib.hid (HR.out.below hb1)
 clear hb1
 go_wp2_with fail
 refine(uG p n c l _ HR1.out HOK.out (by omega)).mono ?_
 rintro e w2 ⟨⟨vo,rfl,ho⟩,hb2⟩
 have HB2:=Lib.hid (HB1.out.trans (hb2.mono HB1.out.size))
 obtain⟨q,d,rfl⟩:=aQ ho
 have HO:=Lib.hid (Fq ho)
 clear hb2 ho
 go_wp2_with fail
 refine(zt q n d (f7 l) _ HO.out (by unfold f7;rw[List.length_map];exact HR.out.1) (fun x hx=> ?_) hn).mono ?_
 ·unfold f7 at hx
  obtain⟨y,_,rfl⟩:=List.mem_map.1 hx
  show(nV y).toArray.size=32
  simpa using uE y
 rintro e w3 ⟨⟨s,rfl,ts⟩,hb3⟩
 have HTS:=Lib.hid ts
 have HB3:=Lib.hid (HB2.out.trans (hb3.mono HB2.out.size))
 clear hb3 ts
 go_wp2_with fail
 go_ret2
 exact⟨⟨s,rfl,HTS.out⟩,HB3.out⟩
theorem sO (ps B n:Nat) (ep:Int) (D:DataW Unit) (w:World) (h:iM w ps B n ep D):
  Calls Tryz.prog 101 #[.pointer (some ⟨ps,0,none⟩)] w fun e w'=>e= .returned (.int .i64 (Maps.size D))∧w=w':=by
 have HS:=Lib.hid h
 clear h
 go_enter Tryz.func101,Tryz.ntmps101
 go_wp2_with fail
 refine(hZ ps B n _ _ _ HS.out).mono ?_
 rintro e w1 ⟨rfl,rfl⟩
 have c1:=HS.out.blk.cell (i:=1) rfl
 go_wp2_with (first
  |(at_len;refine wpList_len_own _ rfl _ 276 rfl 3 9 Tryz.underlying276 _ B n D rfl HS.out.map ?_)
  |fail)
 go_ret
 exact⟨rfl,rfl⟩
theorem uJ (ps B n:Nat) (ep:Int) (D:DataW Unit) (f:Int→Option (List UInt8)) (w:World) (h:iM w ps B n ep D) (hD:jU D f) (hf:jE f) (hn:(bS f 4096).length≤1):
  Calls Tryz.prog 102 #[.pointer (some ⟨ps,0,none⟩)] w fun e w'=>(∃s,e= .returned (.string s)∧ak s (EU (bS f 4096)))∧Below w.heap.size w w':=by
 have HS:=Lib.hid h
 have HD:=Lib.hid hD
 have HF:=Lib.hid hf
 clear h hD hf
 go_enter Tryz.func102,Tryz.ntmps102
 go_wp2_with fail
 refine(hZ ps B n _ _ _ HS.out).mono ?_
 rintro e w1 ⟨rfl,rfl⟩
 go_wp2_with fail
 refine(lQ ps B n ep D f _ HS.out HD.out).mono ?_
 rintro e w2 ⟨⟨vo,rfl,ho⟩,hb2⟩
 have HB2:=Lib.hid hb2
 obtain⟨q,d,rfl,hlr⟩:=gC.own ho rfl
 have HLR:=Lib.hid hlr
 clear hb2 ho hlr
 go_wp2_with fail
 refine(zu q _ d (bS f 4096) _ HLR.out (xf HF.out 4096 (Nat.le_refl _)) hn).mono ?_
 rintro e w3 ⟨⟨s,rfl,ts⟩,hb3⟩
 have HTS:=Lib.hid ts
 have HB3:=Lib.hid (HB2.out.trans (hb3.mono HB2.out.size))
 clear hb3 ts
 go_wp2_with fail
 go_ret
 exact⟨⟨s,rfl,HTS.out⟩,HB3.out⟩
end Go.Proofs.YtngiibgdgenidaaGreat
