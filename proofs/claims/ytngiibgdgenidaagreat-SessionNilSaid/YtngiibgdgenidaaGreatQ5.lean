/- Walks of package hmac. Walks of hmac.Clash and hmac.Parts. Walks of octet.Text, octet.Put where it may not be, and package derive. Walk of derive.Said: what a key is made for, as bytes. Walks of hmac.Parts, derive.Key and derive.Long. -/
import Derived.Test.YtngiibgdgenidaaGreatQ3
import Derived.Test.YtngiibgdgenidaaGreatQ2
import Derived.Deep.Slices
import Derived.SliceStrings
import Derived.Carry
set_option linter.unusedSimpArgs false
set_option linter.unusedVariables false
set_option maxRecDepth 100000
set_option maxHeartbeats 4000000
namespace Go.Proofs.YtngiibgdgenidaaGreat
open Go Go.RowKit
theorem mf (s:ByteArray) (w:World) (c:Nat) (hn:s.size≤536870912):
  Calls Tryz.prog 252 #[.slice (some ⟨w.heap.size,0,none⟩) 1 c] (w.alloc (.cells #[.string s] 9)) fun e w'=>∃r,e= .returned (.string r)∧ak r (de s.data.toList)∧Below w.heap.size w w':=by
 have hb:ac (w.alloc (.cells #[.string s] 9)) w.heap.size [.string s] 9:=ac.new w [.string s] _
 refine(yQ w.heap.size 0 c [s] _ hb.lt ?_ ?_ (by simp)).mono ?_
 ·intro j x hx
  rw[Nat.zero_add]
  refine hb.cell ?_
  cases j with
  |zero=>simp at hx;subst hx;rfl
  |succ j=>simp at hx
 ·simp[cX];exact hn
 ·rintro e w' ⟨r,rfl,t,b⟩
  exact⟨r,rfl,t.cast (by simp[cX]),((Below.refl _ _).alloc (Nat.le_refl _) _).trans (b.mono (by simp))⟩
theorem rE (s t:ByteArray) (w:World) (c:Nat) (hn:s.size+t.size≤536870912):
  Calls Tryz.prog 252 #[.slice (some ⟨w.heap.size,0,none⟩) 2 c] (w.alloc (.cells #[.string s, .string t] 9)) fun e w'=>∃r,e= .returned (.string r)∧ak r (de (s.data.toList++t.data.toList))∧Below w.heap.size w w':=by
 have hb:ac (w.alloc (.cells #[.string s, .string t] 9)) w.heap.size [.string s, .string t] 9:=ac.new w [.string s, .string t] _
 refine(yQ w.heap.size 0 c [s,t] _ hb.lt ?_ ?_ (by simp)).mono ?_
 ·intro j x hx
  rw[Nat.zero_add]
  refine hb.cell ?_
  match j,hx with
  |0,hx=>simp at hx;subst hx;rfl
  |1,hx=>simp at hx;subst hx;rfl
 ·simp[cX];exact hn
 ·rintro e w' ⟨r,rfl,t,b⟩
  exact⟨r,rfl,t.cast (by simp[cX]),((Below.refl _ _).alloc (Nat.le_refl _) _).trans (b.mono (by simp))⟩
theorem Df (k:ByteArray) (w:World) (hk:k.size≤16777216):
  Calls Tryz.prog 366 #[.string k] w fun e w'=>∃r,e= .returned (.string r)∧ak r (gd k.data.toList)∧Below w.heap.size w w':=by
 have hk':(k.size:Int)≤16777216:=by omega
 by_cases h:64<k.size
 ·have h':(64:Int)<k.size:=by omega
  go_enter Tryz.func366,Tryz.ntmps366
  go_wp2_with fail
  refine(mf k _ _ (by omega)).mono ?_
  rintro e w1 ⟨r,rfl,tr,hb⟩
  have hs:r.size=32:=by rw[tr.size,cJ]
  have hs1:r.size≤32:=by omega
  have hs2:32≤r.size:=by omega
  have e32:(64:Int)-(r.size:Int)=((32:Nat):Int):=by omega
  clear hs
  go_wp2_with fail
  refine(jh 32 _ (by omega)).mono ?_
  rintro e w2 ⟨z,rfl,tz,hb2⟩
  have hz:z.size≤32:=by rw[tz.size];simp
  go_wp2_with fail
  go_ret
  refine⟨_,rfl,(tr.append tz).cast ?_,hb.trans (hb2.mono hb.size)⟩
  unfold gd
  exact(if_pos (show 64<k.data.toList.length from h)).symm
 ·obtain⟨m,hm⟩:∃m,Hid (m=64-k.size):=⟨_,rfl⟩
  have em:(64:Int)-(k.size:Int)=(m:Int):=by have:=hm.out;omega
  have hm':m≤64:=by have:=hm.out;omega
  have h':(k.size:Int)≤64:=by omega
  go_enter Tryz.func366,Tryz.ntmps366
  go_wp2_with fail
  refine(jh m _ (by omega)).mono ?_
  rintro e w2 ⟨z,rfl,tz,hb2⟩
  have hz:z.size≤64:=by rw[tz.size];simp;omega
  go_wp2_with fail
  go_ret
  refine⟨_,rfl,((ak.self k).append tz).cast ?_,hb2⟩
  unfold gd
  rw[hm.out]
  exact(if_neg (show¬64<k.data.toList.length from h)).symm
theorem EB (c x:UInt8) (bx:Addr) (w:World) (hx:w.cell? bx=some (.int .u8 ((x.toNat:Nat):Int))):
  Calls Tryz.prog 368 #[.int .u8 ((c.toNat:Nat):Int), .pointer (some bx)] w fun e w'=>e= .returned (.int .u8 (((c^^^x).toNat:Nat):Int))∧w=w':=by
 have h1:=c.toNat_lt
 have h2:=x.toNat_lt
 have hf:Hid (bits BinOp.xor IntKind.u8 ((c.toNat:Nat):Int) ((x.toNat:Nat):Int)=(((c^^^x).toNat:Nat):Int)):=by
  show _= _
  rw[u8_xor_nat _ _ (by simpa using h1) (by simpa using h2)];simp
 go_enter Tryz.func368,Tryz.ntmps368
 go_wp2
 go_ret
 refine⟨?_,rfl⟩
 show Ending.returned (Value.int IntKind.u8 _)= _
 rw[←hf.out]
def jA (l:List UInt8) (x:UInt8) (k:Nat):List UInt8:=(l.take k).map (fun c=>c^^^x)++l.drop k
theorem nI (l:List UInt8) (x:UInt8) (k:Nat):(jA l x k).length=l.length:=by simp[jA];omega
theorem ED (l:List UInt8) (x:UInt8) (k:Nat) (h:k<l.length):(jA l x k)[k]?=some l[k]:=by
 unfold jA
 rw[List.getElem?_append_right (by simp;omega)]
 simp[Nat.min_eq_left (Nat.le_of_lt h),h]
theorem Dh (l:List UInt8) (x:UInt8) (k:Nat) (h:k<l.length):(jA l x k).set k (l[k]^^^x)=jA l x (k+1):=by
 have e:l.drop k=l[k]::l.drop (k+1):=List.drop_eq_getElem_cons h
 unfold jA
 rw[e,List.set_append_right _ _ (by simp;omega),List.take_succ_eq_append_getElem h,List.map_append,List.append_assoc]
 congr 1
 simp only[List.length_map,List.length_take,Nat.min_eq_left (Nat.le_of_lt h),Nat.sub_self,List.set_cons_zero,List.map_cons,List.map_nil,List.cons_append,List.nil_append]
theorem Di (bv bx g cap:Nat) (l:List UInt8) (z:List Value) (x:UInt8) (w:World) (hl:l.length=64)
  (hv:w.cell? ⟨bv,0,none⟩=some (.slice (some ⟨g,0,none⟩) 64 cap)) (hx:w.cell? ⟨bx,0,none⟩=some (.int .u8 ((x.toNat:Nat):Int))) (hr:Row w g (bytesV l++z) 5) (hgv:g≠bv) (hgx:g≠bx):
  Calls Tryz.prog 367 #[.func (.func 368) #[] #[.pointer (some ⟨bx,0,none⟩)], .pointer (some ⟨bv,0,none⟩)] w fun e w'=>e= .returned (.tuple #[])∧Row w' g (bytesV (l.map fun c=>c^^^x)++z) 5∧Kept g w w':=by
 have Hl:=Lib.hid hl;clear hl
 have Hr:=Lib.hid hr;clear hr
 have Hx:=Lib.hid hx;clear hx
 have Hv:=Lib.hid hv;clear hv
 go_enter Tryz.func367,Tryz.ntmps367
 go_wp2_with fail
 go_loopw [4] (fun i wr=>∃k:Nat,k≤64∧i= .int .i64 k∧wr.cell? ⟨bv,0,none⟩=some (.slice (some ⟨g,0,none⟩) 64 cap)∧wr.cell? ⟨bx,0,none⟩=some (.int .u8 ((x.toNat:Nat):Int))∧Row wr g (bytesV (jA l x k)++z) 5∧Kept g w wr) (fun i _=>64-(intOf i).toNat)
 case atStart=>exact⟨0,by omega,rfl,Hv.out,Hx.out,by simpa[jA]using Hr.out,Kept.refl _ _⟩
 case round=>
  obtain⟨k,hk,rfl,hv,hx,hr,hkp⟩:=hrel
  by_cases hlt:k<64
  ·have hlt':(k:Int)<64:=by omega
   have hkl:k<l.length:=by rw[Hl.out];exact hlt
   obtain⟨c,Hc⟩:∃c,Hid (c=l[k]):=⟨l[k],(rfl:l[k]=l[k])⟩
   have hck:wr.cell? ⟨g,k,none⟩=some (.int .u8 ((c.toNat:Nat):Int)):=by
    refine hr.cell ?_
    have:=ED l x k hkl
    obtain⟨h1,h2⟩:=List.getElem?_eq_some_iff.1 this
    rw[List.getElem?_append_left (by rw[ic];exact h1),iD _ _ h1,h2,←Hc.out]
   have hcf:wr.frozen? ⟨g,k,none⟩=false:=hr.free (by rw[List.length_append,ic,nI];omega)
   have HR:=Lib.hid hr;clear hr
   go_wp2_with fail
   refine dm 9 (by kernel_rfl) (by kernel_rfl) ?_
   simp only[List.take_succ_cons,List.take_zero,List.drop_succ_cons,List.drop_zero]
   iterate 7 still_step
   still_call (mr (EB c x _ _ hx))
   iterate 1 still_step
   refine wpStill_nil ?_
   go_wp2_with fail
   go_roundw
   case rel=>
    refine⟨k+1,by omega,by go_num, ?_, ?_, ?_,(hkp.setCell _ _).drew⟩
    ·rw[←hv];exact World.cell?_setCell_other _ _ _ _ (by intro e;injection e with e1;exact hgv e1)
    ·rw[←hx];exact World.cell?_setCell_other _ _ _ _ (by intro e;injection e with e1;exact hgx e1)
    ·refine((HR.out.set _ _).ext ?_).drew
     rw[show((c.toNat^^^x.toNat:Nat):Int)=(((c^^^x).toNat:Nat):Int) by simp,List.set_append_left _ _ (by rw[ic,nI];exact hkl),fQ,Hc.out,Dh _ _ _ hkl]
   case measure=>simp[intOf];omega
  ·obtain rfl:k=64:=by omega
   have HR:=Lib.hid hr;clear hr
   go_wp2_with fail
   go_end0
   refine⟨rfl,HR.out.ext ?_,hkp⟩
   unfold jA
   rw[List.take_of_length_le (by rw[Hl.out];exact Nat.le_refl _),List.drop_of_length_le (by rw[Hl.out];exact Nat.le_refl _),List.append_nil]
theorem Dj (w:World):Sem.run Tryz.prog (zeroValue 217) w= .ok (.slice none 0 0) w:=by kernel_rfl
theorem nJ (k:ByteArray) (x:UInt8) (w:World) (hk:k.size≤16777216):
  Calls Tryz.prog 326 #[.string k, .int .u8 ((x.toNat:Nat):Int)] w fun e w'=>∃r,e= .returned (.string r)∧ak r (jV k.data.toList x)∧Below w.heap.size w w':=by
 go_enter Tryz.func326,Tryz.ntmps326
 go_wp2_with ((with_reducible refine aw 5 (.tmp 1) (.int .u8 ((x.toNat:Nat):Int)) rfl (some 3) ?hgd ?ho ?hd ?hx ?_);(case hgd|ho|hd|hx=>rfl);(intro bx w2 l2 B2 e2 z2))
 refine(Df k _ hk).mono ?_
 rintro e w3 ⟨r,rfl,tr,hb3⟩
 have hr:Hid (r.size=64):=by show _= _;rw[tr.size,lz]
 go_wp2_with (first
  |((with_reducible refine qe 9 217 5 (.tmp 8) r (some 9) Tryz.underlying9 Tryz.underlying217 Tryz.underlying5 ?hgd ?ho ?hd ?hx ?_);(case hgd|ho|hd|hx=>rfl);(intro g cap z w4 l4 B4 e4 z4 hcap);(rw[hr.out]))
  |((with_reducible refine aG 217 (.slice none 0 0) Dj rfl (some 5) ?hgd ?ho ?hd ?_);(case hgd|ho|hd=>rfl);(intro bv w5 l5 B5 e5 z5);(have cv:w5.cell? ⟨bv,0,none⟩=some (.slice none 0 0):=B5.cell rfl);(have fv:w5.frozen? ⟨bv,0,none⟩=false:=B5.free 0)))
 have q3:=hb3.size
 have hg:Row (w5.setCell ⟨bv,0,none⟩ (.slice (some ⟨g,0,none⟩) 64 cap)) g (bytesV (gd k.data.toList)++z) 5:=by
  rw[←show r.data.toList=gd k.data.toList from tr]
  exact(B4.below e5 (by omega)).set_other (by show g≠bv;omega) _
 have hx:(w5.setCell ⟨bv,0,none⟩ (.slice (some ⟨g,0,none⟩) 64 cap)).cell? ⟨bx,0,none⟩=some (.int .u8 ((x.toNat:Nat):Int)):=
  ((((B2.below hb3 (by omega)).below e4 (by omega)).below e5 (by omega)).set_other (by show bx≠bv;omega) _).cell rfl
 have hv:(w5.setCell ⟨bv,0,none⟩ (.slice (some ⟨g,0,none⟩) 64 cap)).cell? ⟨bv,0,none⟩=some (.slice (some ⟨g,0,none⟩) 64 cap):=(B5.set 0 _).cell rfl
 refine(Di bv bx g cap (gd k.data.toList) z x _ (lz _) hv hx hg (by omega) (by omega)).mono ?_
 rintro e w6 ⟨rfl,R6,k6⟩
 have cv6:w6.cell? ⟨bv,0,none⟩=some (.slice (some ⟨g,0,none⟩) 64 cap):=(k6.blk (B5.set 0 _) (by omega)).cell rfl
 have HR:Hid (Row w6 g (bytesV (jV k.data.toList x)++z) 5):=R6
 clear R6 hv hx hg cv fv
 go_wp2_with ((with_reducible refine eS 217 9 5 (.tmp 14) (jV k.data.toList x) g 0 64 cap (some 15) Tryz.underlying217 Tryz.underlying5 Tryz.underlying9 HR.out.range (iO _ _).symm ?hgd ?ho ?hd ?hx ?_);(case hgd|ho|hd|hx=>rfl))
 go_ret
 refine⟨_,rfl,ak.mk _, ?_⟩
 have hb5:Below w.heap.size w w5:=(((e2.mono l2).trans (hb3.mono (by omega))).trans (e4.mono (by omega))).trans (e5.mono (by omega))
 exact k6.below (hb5.setCell (by show w.heap.size≤bv;omega) _) (by omega) (by simp;omega)
theorem Dk (k:ByteArray) (w:World) (hk:k.size≤16777216):
  Calls Tryz.prog 326 #[.string k, .int .u8 54] w fun e w'=>∃r,e= .returned (.string r)∧ak r (jV k.data.toList 0x36)∧Below w.heap.size w w':=nJ k 0x36 w hk
theorem Dl (k:ByteArray) (w:World) (hk:k.size≤16777216):
  Calls Tryz.prog 326 #[.string k, .int .u8 92] w fun e w'=>∃r,e= .returned (.string r)∧ak r (jV k.data.toList 0x5c)∧Below w.heap.size w w':=nJ k 0x5c w hk
theorem As (k m:ByteArray) (w:World) (hk:k.size≤16777216) (hm:m.size≤16777216):
  Calls Tryz.prog 258 #[.string k, .string m] w fun e w'=>∃r,e= .returned (.string r)∧ak r (qg k.data.toList m.data.toList)∧Below w.heap.size w w':=by
 go_enter Tryz.func258,Tryz.ntmps258
 go_wp2_with fail
 refine(Dl k _ hk).mono ?_
 rintro e w1 ⟨r,rfl,tr,hb⟩
 have hr:r.size≤64:=by rw[tr.size,iO];omega
 go_wp2_with fail
 refine(Dk k _ hk).mono ?_
 rintro e w2 ⟨q,rfl,tq,hb2⟩
 have hq:q.size≤64:=by rw[tq.size,iO];omega
 go_wp2_with fail
 refine(rE q m _ _ (by omega)).mono ?_
 rintro e w3 ⟨s,rfl,ts,hb3⟩
 have hs:s.size≤32:=by rw[ts.size,cJ];omega
 go_wp2_with fail
 go_ret
 refine⟨_,rfl,(tr.append ts).cast ?_,hb.trans ((hb2.trans (hb3.mono hb2.size)).mono hb.size)⟩
 rw[tq];rfl
theorem mI (k m:ByteArray) (w:World) (hk:k.size≤16777216) (hm:m.size≤16777216):
  Calls Tryz.prog 158 #[.string k, .string m] w fun e w'=>∃r,e= .returned (.string r)∧ak r (nh k.data.toList m.data.toList)∧Below w.heap.size w w':=by
 go_enter Tryz.func158,Tryz.ntmps158
 go_wp2_with fail
 refine(As k m _ hk hm).mono ?_
 rintro e w1 ⟨r,rfl,tr,hb⟩
 have hr:r.size≤96:=by rw[tr.size,sR];omega
 go_wp2_with fail
 refine(mf r _ _ (by omega)).mono ?_
 rintro e w2 ⟨s,rfl,ts,hb2⟩
 go_wp2_with fail
 go_ret
 refine⟨_,rfl,ts.cast ?_,hb.trans (hb2.mono hb.size)⟩
 rw[tr];rfl
theorem ak.toList {r:ByteArray} {l:List UInt8} (h:ak r l):r.toList=l:=(Lib.toList_data r).trans h
theorem ak.other {r r':ByteArray} {l l':List UInt8} (h:ak r l) (h':ak r' l') (e:l≠l'):(r.toList==r'.toList)=false:=by
 rw[h.toList,h'.toList];simpa using e
theorem ak.is {r:ByteArray} {l l':List UInt8} (h:ak r l) (e:l=l'):(r.toList==l')=true:=by
 rw[h.toList,e];simp
theorem EE (n:Int) (wd:Nat) (w:World) (h1:1≤wd) (h2:wd≤8) (hn:n<0):
  Calls Tryz.prog 227 #[.int .i64 n, .int .i64 wd] w fun e w'=>e= .returned (.tuple #[.string ⟨#[]⟩, .int .i64 2])∧w=w':=by
 have e1:(1:Int)≤wd:=by omega
 have e2:(wd:Int)≤8:=by omega
 go_enter Tryz.func227,Tryz.ntmps227
 go_wp2_with fail
 go_ret2
 exact⟨rfl,rfl⟩
theorem Ic (n:Nat) (h:n<4294967296):bits BinOp.and IntKind.i64 (n:Int) 4294967295=(n:Int):=by
 have:=bits_mask .i64 63 (by decide) (fun x h0 h1=>by rw[IntKind.wrap_i64];omega) 32 (by decide) (n:Int) (by omega) (by omega)
 refine this.trans ?_
 omega
theorem fa (s:ByteArray) (w:World) (hs:s.size≤1073741824):
  Calls Tryz.prog 182 #[.string s] w fun e w'=>∃r,e= .returned (.string r)∧ak r (bT s.data.toList)∧Below w.heap.size w w':=by
 obtain⟨n,Hn⟩:∃n,Hid (n=s.size):=⟨_,rfl⟩
 have em:bits BinOp.and IntKind.i64 ((s.size:Nat):Int) 4294967295=(n:Int):=by rw[Hn.out];exact Ic s.size (by omega)
 have hn:n≤1073741824:=by rw[Hn.out];exact hs
 go_enter Tryz.func182,Tryz.ntmps182
 go_wp2_with fail
 refine(mC n 4 _ (by omega) (by omega) (by omega) (by omega)).mono ?_
 rintro e w1 ⟨r,rfl,tr,hb⟩
 have hr:r.size≤4:=by rw[tr.size,beBytes_length];omega
 go_wp2_with fail
 go_ret
 refine⟨_,rfl,(tr.append (ak.self s)).cast ?_,hb⟩
 rw[Hn.out];rfl
def bF (w:World) (v:Value) (xs:List Int):Prop:=
 (xs=[]∧∃(p:Option Addr) (c:Nat),v= .slice p 0 c)∨
 ∃g o c,v= .slice (some ⟨g,o,none⟩) xs.length c∧g<w.heap.size∧∀(j:Nat) (x:Int),xs[j]?=some x→w.cell? ⟨g,o+j,none⟩=some (.int .i64 x)
theorem bF.below {w w':World} {v:Value} {xs:List Int} (h:bF w v xs) {B:Nat} (hb:Below B w w') (hB:w.heap.size≤B):bF w' v xs:=by
 rcases h with h|⟨g,o,c,h1,h2,h3⟩
 ·exact .inl h
 ·exact .inr ⟨g,o,c,h1,by have:=hb.size;omega,fun j x hx=>by rw[hb.cell (by show g<B;omega)];exact h3 j x hx⟩
theorem bF.nil (w:World):bF w (.slice none 0 0) []:= .inl ⟨rfl,_,_,rfl⟩
def rF (label:List UInt8) (xs:List Int) (e:Ending):Prop:=
 (cK label xs=true∧∃r,e= .returned (.tuple #[.string r, .int .i64 0])∧ak r (jW label (xs.map Int.toNat)))∨
 (cK label xs=false∧e= .returned (.tuple #[.string ⟨#[]⟩, .int .i64 2]))
def fD (label:List UInt8) (xs:List Int) (k:Nat):List UInt8:=bT label++[UInt8.ofNat xs.length]++((xs.take k).map Int.toNat).flatMap (beBytes 8)
theorem pg (label:List UInt8) (xs:List Int):fD label xs 0=bT label++[UInt8.ofNat xs.length]:=by simp[fD]
theorem yp (label:List UInt8) (xs:List Int) (k:Nat) (x:Int) (h:xs[k]?=some x):fD label xs (k+1)=fD label xs k++beBytes 8 x.toNat:=by
 obtain⟨hk,rfl⟩:=List.getElem?_eq_some_iff.1 h
 unfold fD
 rw[List.take_succ_eq_append_getElem hk,List.map_append,List.flatMap_append]
 simp
theorem Au (label:List UInt8) (xs:List Int):fD label xs xs.length=jW label (xs.map Int.toNat):=by simp[fD,jW]
theorem mT (label:List UInt8) (xs:List Int) (k:Nat):(fD label xs k).length≤5+label.length+8*xs.length:=by
 unfold fD
 rw[List.length_append,List.length_append,bQ,kQ,List.length_map,List.length_take,List.length_singleton];omega
theorem su {label:List UInt8} {xs:List Int} (h1:1≤label.length) (h2:label.length≤16) (h3:xs.length≤8) (h4:∀(i:Nat) (x:Int),xs[i]?=some x→0≤x):cK label xs=true:=by
 simp only[cK,Bool.and_eq_true,decide_eq_true_eq,List.all_eq_true]
 refine⟨⟨⟨h1,h2⟩,h3⟩,fun x hx=> ?_⟩
 obtain⟨i,hi⟩:=List.mem_iff_getElem?.1 hx
 exact h4 i x hi
theorem vN {label:List UInt8} {xs:List Int} (h:label.length<1):cK label xs=false:=by
 have:decide (1≤label.length)=false:=by simpa using h
 simp[cK];omega
theorem vO {label:List UInt8} {xs:List Int} (h:16<label.length):cK label xs=false:=by
 have:decide (label.length≤16)=false:=by simpa using h
 simp[cK,this]
theorem EF {label:List UInt8} {xs:List Int} (h:8<xs.length):cK label xs=false:=by
 have:decide (xs.length≤8)=false:=by simpa using h
 simp[cK,this]
theorem EG {label:List UInt8} {xs:List Int} {i:Nat} {x:Int} (hi:xs[i]?=some x) (h:x<0):cK label xs=false:=by
 have:xs.all (fun n=>decide (0≤n))=false:=by
  rw[List.all_eq_false]
  exact⟨x,List.mem_iff_getElem?.2 ⟨i,hi⟩,by simpa using h⟩
 simp[cK,this]
theorem emptyText {s:ByteArray} (h:s.size<1):s.toList=[]:=by
 rw[Lib.toList_data];exact List.eq_nil_of_length_eq_zero (by show s.size=0;omega)
theorem kG {s:ByteArray} (h:1≤s.size):s.toList.isEmpty=false:=by
 rw[Lib.toList_data]
 cases e:s.data.toList with
 |nil=>have:s.size=0:=by show s.data.toList.length=0;rw[e];rfl
       omega
 |cons a b=>rfl
theorem EH (label:ByteArray) (p:Option Addr) (c:Nat) (w:World):
  Calls Tryz.prog 157 #[.string label, .slice p 0 c] w fun e w'=>rF label.data.toList ([]:List Int) e∧Below w.heap.size w w':=by
 by_cases c1:label.size<1
 ·have d1:=emptyText c1
  go_enter Tryz.func157,Tryz.ntmps157
  go_wp2_with fail
  go_ret2
  exact⟨.inr ⟨vN (show label.data.toList.length<1 from c1),rfl⟩,Below.refl _ _⟩
 ·have d1:=kG (s:=label) (by omega)
  by_cases c2:16<label.size
  ·have d2:(16:Int)<label.size:=by omega
   go_enter Tryz.func157,Tryz.ntmps157
   go_wp2_with fail
   go_ret2
   exact⟨.inr ⟨vO (show 16<label.data.toList.length from c2),rfl⟩,Below.refl _ _⟩
  ·have d2:(label.size:Int)≤16:=by omega
   have hT:(bT label.data.toList).length≤20:=by rw[bQ];show 4+label.size≤20;omega
   go_enter Tryz.func157,Tryz.ntmps157
   go_wp2_with ((with_reducible refine af 219 _ lA (some 6) ?hgd ?ho ?hd ?_);(case hgd|ho|hd=>rfl);(intro b w1 l1 B1 e1 z1))
   refine(fa label _ (by omega)).mono ?_
   rintro e w2 ⟨r,rfl,tr,hb2⟩
   have hB2:fX w2 b []:=(fX.new B1).below hb2
   have hr:r.size≤20:=by rw[tr.size];exact hT
   clear B1
   have HB2:=Lib.hid hB2;clear hB2
   go_wp2_with fail
   refine(gh b [] r _ HB2.out (by simp;omega)).mono ?_
   rintro e w3 ⟨rfl,hB3,hb3⟩
   have HB3:=Lib.hid hB3;clear hB3
   go_wp2_with fail
   refine(mP b _ _ _ HB3.out ?_ ?_ ?_).mono ?_
   ·omega
   ·omega
   ·rw[List.nil_append,show r.data.toList= _ from tr];omega
   rintro e w4 ⟨rfl,hB4,hb4⟩
   have HB4:Hid (fX w4 b (fD label.data.toList ([]:List Int) 0)):=by
    show fX w4 b _
    rw[pg,←show r.data.toList= _ from tr]
    have:=hB4
    simpa using this
   clear hB4
   have q2:=hb2.size
   have q3:=hb3.size
   have hbel:Below w.heap.size w w4:=((((e1.mono l1).trans (hb2.mono (by omega))).trans (hb3.mono l1)).trans (hb4.mono l1))
   clear e1 hb2 hb3 hb4 q2 q3
   go_wp2_with fail
   go_loopw [32] (fun i wr=>∃k:Nat,k≤0∧i= .int .i64 k∧fX wr b (fD label.data.toList ([]:List Int) k)∧Below w.heap.size w wr∧∀(i:Nat) (x:Int),i<k→([]:List Int)[i]?=some x→0≤x) (fun i _=>0-(intOf i).toNat)
   case atStart=>exact⟨0,by omega,rfl,HB4.out,hbel,fun i x h=>by omega⟩
   case round=>
    clear HB4 hbel
    obtain⟨k,hk,rfl,hB,hbel,hpos⟩:=hrel
    have HB:=Lib.hid hB;clear hB
    have HP:=Lib.hid hpos;clear hpos
    have HL:=Lib.hid (mT label.data.toList ([]:List Int) k)
    have hll:label.data.toList.length=label.size:=rfl
    have HLL:=Lib.hid hll;clear hll
    obtain rfl:k=0:=by omega
    go_wp2_with fail
    refine(mt b _ _ HB.out).mono ?_
    rintro e w5 ⟨q,rfl,tq,hb5⟩
    go_wp2_with fail
    go_ret2
    exact⟨.inl ⟨su (show 1≤label.size by omega) (show label.size≤16 by omega) (by simp) (fun i x h=>by simp at h),q,rfl,tq.cast rfl⟩,hbel.trans (hb5.mono l1)⟩
theorem EI (label:ByteArray) (g o c:Nat) (xs:List Int) (w:World) (hg:g<w.heap.size) (hc:∀(j:Nat) (x:Int),xs[j]?=some x→w.cell? ⟨g,o+j,none⟩=some (.int .i64 x)) (hx:∀(j:Nat) (x:Int),xs[j]?=some x→x<9223372036854775808) (hxl:xs.length≤1073741824):
  Calls Tryz.prog 157 #[.string label, .slice (some ⟨g,o,none⟩) xs.length c] w fun e w'=>rF label.data.toList xs e∧Below w.heap.size w w':=by
 have Hc:=Lib.hid hc;clear hc
 have Hx:=Lib.hid hx;clear hx
 by_cases c1:label.size<1
 ·have d1:=emptyText c1
  go_enter Tryz.func157,Tryz.ntmps157
  go_wp2_with fail
  go_ret2
  exact⟨.inr ⟨vN (show label.data.toList.length<1 from c1),rfl⟩,Below.refl _ _⟩
 ·have d1:=kG (s:=label) (by omega)
  by_cases c2:16<label.size
  ·have d2:(16:Int)<label.size:=by omega
   go_enter Tryz.func157,Tryz.ntmps157
   go_wp2_with fail
   go_ret2
   exact⟨.inr ⟨vO (show 16<label.data.toList.length from c2),rfl⟩,Below.refl _ _⟩
  ·have d2:(label.size:Int)≤16:=by omega
   by_cases c3:8<xs.length
   ·have d3:(8:Int)<xs.length:=by omega
    go_enter Tryz.func157,Tryz.ntmps157
    go_wp2_with fail
    go_ret2
    exact⟨.inr ⟨EF c3,rfl⟩,Below.refl _ _⟩
   ·have d3:(xs.length:Int)≤8:=by omega
    have hT:(bT label.data.toList).length≤20:=by rw[bQ];show 4+label.size≤20;omega
    go_enter Tryz.func157,Tryz.ntmps157
    go_wp2_with ((with_reducible refine af 219 _ lA (some 6) ?hgd ?ho ?hd ?_);(case hgd|ho|hd=>rfl);(intro b w1 l1 B1 e1 z1))
    refine(fa label _ (by omega)).mono ?_
    rintro e w2 ⟨r,rfl,tr,hb2⟩
    have hB2:fX w2 b []:=(fX.new B1).below hb2
    have hr:r.size≤20:=by rw[tr.size];exact hT
    clear B1
    have HB2:=Lib.hid hB2;clear hB2
    go_wp2_with fail
    refine(gh b [] r _ HB2.out (by simp;omega)).mono ?_
    rintro e w3 ⟨rfl,hB3,hb3⟩
    have HB3:=Lib.hid hB3;clear hB3
    go_wp2_with fail
    refine(mP b _ _ _ HB3.out ?_ ?_ ?_).mono ?_
    ·omega
    ·omega
    ·rw[List.nil_append,show r.data.toList= _ from tr];omega
    rintro e w4 ⟨rfl,hB4,hb4⟩
    have HB4:Hid (fX w4 b (fD label.data.toList xs 0)):=by
     show fX w4 b _
     rw[pg,←show r.data.toList= _ from tr]
     have:=hB4
     simpa using this
    clear hB4
    have q2:=hb2.size
    have q3:=hb3.size
    have hbel:Below w.heap.size w w4:=((((e1.mono l1).trans (hb2.mono (by omega))).trans (hb3.mono l1)).trans (hb4.mono l1))
    clear e1 hb2 hb3 hb4 q2 q3
    go_wp2_with fail
    go_loopw [32] (fun i wr=>∃k:Nat,k≤xs.length∧i= .int .i64 k∧fX wr b (fD label.data.toList xs k)∧Below w.heap.size w wr∧∀(i:Nat) (x:Int),i<k→xs[i]?=some x→0≤x) (fun i _=>xs.length-(intOf i).toNat)
    case atStart=>exact⟨0,by omega,rfl,HB4.out,hbel,fun i x h=>by omega⟩
    case round=>
     clear HB4 hbel
     obtain⟨k,hk,rfl,hB,hbel,hpos⟩:=hrel
     have HB:=Lib.hid hB;clear hB
     have HP:=Lib.hid hpos;clear hpos
     have HL:=Lib.hid (mT label.data.toList xs k)
     have hll:label.data.toList.length=label.size:=rfl
     have HLL:=Lib.hid hll;clear hll
     by_cases hlt:k<xs.length
     ·have hlt':(k:Int)<xs.length:=by omega
      obtain⟨x,hxk⟩:∃x,xs[k]?=some x:=⟨_,List.getElem?_eq_getElem hlt⟩
      have ck:wr.cell? ⟨g,o+k,none⟩=some (.int .i64 x):=by
       rw[hbel.cell (by show g<w.heap.size;exact hg)];exact Hc.out k x hxk
      have hx63:=Hx.out k x hxk
      have HX:=Lib.hid hxk;clear hxk
      by_cases hneg:x<0
      ·go_wp2_with fail
       refine(EE x 8 _ (by omega) (by omega) hneg).mono ?_
       rintro e w5 ⟨rfl,rfl⟩
       go_wp2_with fail
       go_ret2
       exact⟨.inr ⟨EG HX.out hneg,rfl⟩,hbel⟩
      ·obtain⟨n,hn⟩:∃n:Nat,x=(n:Int):=⟨x.toNat,by omega⟩
       subst hn
       go_wp2_with fail
       refine(mC n 8 _ (by omega) (by omega) (by omega) (by omega)).mono ?_
       rintro e w5 ⟨p,rfl,tp,hb5⟩
       have hp:p.size≤8:=by rw[tp.size,beBytes_length];omega
       go_wp2_with fail
       refine(gh b _ p _ (HB.out.below hb5) (by have:=HL.out;have:=HLL.out;omega)).mono ?_
       rintro e w6 ⟨rfl,hB6,hb6⟩
       have HB6:=Lib.hid hB6;clear hB6
       have q5:=hb5.size
       have q0:=hbel.size
       have hbel6:Below w.heap.size w w6:=(hbel.trans (hb5.mono q0)).trans (hb6.mono l1)
       clear q5 q0
       go_wp2_with fail
       go_roundw
       case rel=>
        refine⟨k+1,by omega,by go_num, ?_,hbel6, ?_⟩
        ·rw[yp _ _ _ _ HX.out,Int.toNat_natCast,←show p.data.toList= _ from tp];exact HB6.out
        ·intro i y hi hy
         by_cases e:i=k
         ·rw[e]at hy
          have h2:=Option.some.inj (HX.out.symm.trans hy)
          omega
         ·exact HP.out i y (by omega) hy
       case measure=>simp[intOf];omega
     ·obtain rfl:k=xs.length:=by omega
      go_wp2_with fail
      refine(mt b _ _ HB.out).mono ?_
      rintro e w5 ⟨q,rfl,tq,hb5⟩
      go_wp2_with fail
      go_ret2
      refine⟨.inl ⟨su (show 1≤label.size by omega) (show label.size≤16 by omega) (by omega) (fun i x h=>HP.out i x (List.getElem?_eq_some_iff.1 h).1 h),q,rfl,tq.cast (Au _ _)⟩,hbel.trans (hb5.mono l1)⟩
theorem sx (label:ByteArray) (v:Value) (xs:List Int) (w:World) (h:bF w v xs) (hx:∀(j:Nat) (x:Int),xs[j]?=some x→x<9223372036854775808) (hxl:xs.length≤1073741824):
  Calls Tryz.prog 157 #[.string label,v] w fun e w'=>rF label.data.toList xs e∧Below w.heap.size w w':=by
 rcases h with⟨rfl,p,c,rfl⟩|⟨g,o,c,rfl,hg,hc⟩
 ·exact EH label p c w
 ·exact EI label g o c xs w hg hc hx hxl
theorem sy (xs:List ByteArray):Lib.join (xs.map (·.data.toList)) []=cX xs:=by
 unfold Lib.join cX
 induction xs with
 |nil=>rfl
 |cons a r ih=>
  cases r with
  |nil=>simp[List.intercalate]
  |cons b t=>
   simp only[List.intercalate,List.map_cons,List.intersperse_cons_cons,List.flatten_cons,List.nil_append,List.flatMap_cons]at ih ⊢
   rw[ih]
theorem Dm (k:ByteArray) (g o c:Nat) (xs:List ByteArray) (w:World) (hk:k.size≤16777216) (hg:g<w.heap.size) (hc:∀(j:Nat) (x:ByteArray),xs[j]?=some x→w.cell? ⟨g,o+j,none⟩=some (.string x))
  (hcap:xs.length≤c) (hl:xs.length≤1073741824) (hn:(cX xs).length≤16777216):
  Calls Tryz.prog 247 #[.string k, .slice (some ⟨g,o,none⟩) xs.length c] w fun e w'=>∃r,e= .returned (.string r)∧ak r (nh k.data.toList (cX xs))∧Below w.heap.size w w':=by
 have Hc:=Lib.hid hc;clear hc
 go_enter Tryz.func247,Tryz.ntmps247
 go_wp2_with fail
 refine(Tryz.strings_Join g o c xs ⟨#[]⟩ _ Hc.out hg (by omega) hcap (by show(Lib.join _ []).length≤_;rw[sy];omega)).mono ?_
 rintro e w1 ⟨rfl,hb1⟩
 have ej:Lib.join (xs.map (·.data.toList)) (⟨#[]⟩:ByteArray).data.toList=cX xs:=sy xs
 rw[ej]
 obtain⟨m,rfl,tm⟩:∃m:ByteArray,m=⟨(cX xs).toArray⟩∧ak m (cX xs):=⟨_,rfl,ak.mk _⟩
 go_wp2_with fail
 refine(mI k ⟨(cX xs).toArray⟩ _ hk (by rw[tm.size];exact hn)).mono ?_
 rintro e w2 ⟨r,rfl,tr,hb2⟩
 go_wp2_with fail
 go_ret
 exact⟨r,rfl,tr,hb1.trans (hb2.mono hb1.size)⟩
theorem Av:(Tryz.prog.info? 9).map (fun i=>(i.zero,i.size,i.bytes))=some (some (.string ⟨#[]⟩),1,16):=by kernel_rfl
theorem Dn (k:ByteArray) (g n c:Nat) (xs:List ByteArray) (t:TypeId) (w:World) (hk:k.size≤16777216) (hb:ac w g (xs.map Value.string) t) (hnl:n=xs.length)
  (hcap:xs.length≤c) (hl:xs.length≤1073741824) (hn:(cX xs).length≤16777216):
  Calls Tryz.prog 247 #[.string k, .slice (some ⟨g,0,none⟩) n c] w fun e w'=>∃r,e= .returned (.string r)∧ak r (nh k.data.toList (cX xs))∧Below w.heap.size w w':=by
 subst hnl
 refine Dm k g 0 c xs w hk hb.lt ?_ hcap hl hn
 intro j x hx
 rw[Nat.zero_add]
 exact hb.cell (by simp[hx])
def Ie (master label:List UInt8) (xs:List Int) (e:Ending):Prop:=
 (cK label xs=true∧∃r,e= .returned (.tuple #[.string r, .int .i64 0])∧ak r (nh master (jW label (xs.map Int.toNat))))∨
 (cK label xs=false∧e= .returned (.tuple #[.string ⟨#[]⟩, .int .i64 2]))
theorem qF {label:List UInt8} {xs:List Int} (h:cK label xs=true):label.length≤16∧xs.length≤8∧1≤label.length∧∀n∈xs,0≤n:=by
 simp only[cK,Bool.and_eq_true,decide_eq_true_eq,List.all_eq_true]at h
 exact⟨h.1.1.2,h.1.2,h.1.1.1,h.2⟩
theorem vP (master label:ByteArray) (v:Value) (xs:List Int) (w:World) (hm:master.size≤16777216) (h:bF w v xs) (hx:∀(j:Nat) (x:Int),xs[j]?=some x→x<9223372036854775808) (hxl:xs.length≤1073741824):
  Calls Tryz.prog 81 #[.string master, .string label,v] w fun e w'=>Ie master.data.toList label.data.toList xs e∧Below w.heap.size w w':=by
 have Hx:=Lib.hid hx;clear hx
 have H:=Lib.hid h;clear h
 go_enter Tryz.func81,Tryz.ntmps81
 go_wp2_with fail
 refine(sx label v xs _ H.out Hx.out hxl).mono ?_
 rintro e w1 ⟨⟨hok,r,rfl,tr⟩|⟨hno,rfl⟩,hb1⟩
 ·have hlen:=qF hok
  have hr:r.size≤85:=by rw[tr.size,ni,List.length_map];omega
  have HK:=Lib.hid hok;clear hok hlen
  go_wp2_with fail
  refine(mI master r _ hm (by omega)).mono ?_
  rintro e w2 ⟨q,rfl,tq,hb2⟩
  go_wp2_with fail
  go_ret2
  exact⟨.inl ⟨HK.out,q,rfl,tq.cast (by rw[tr])⟩,hb1.trans (hb2.mono hb1.size)⟩
 ·have HN:=Lib.hid hno;clear hno
  go_wp2_with fail
  go_ret2
  exact⟨.inr ⟨HN.out,rfl⟩,hb1⟩
theorem Do (pm pw ps po:Nat) (master said was out:ByteArray) (i:Nat) (w:World) (hm:master.size≤16777216) (hs:said.size≤100) (hws:was.size≤32) (ho:out.size≤1073741824) (hi:i<255)
  (Bm:ac w pm [.string master] 9) (Bw:ac w pw [.string was] 9) (Bs:ac w ps [.string said] 9) (Bo:ac w po [.string out] 9) (hne:pw≠po∧pw≠pm∧pw≠ps∧po≠pm∧po≠ps):
  Calls Tryz.prog 246 #[.int .i64 i, .pointer (some ⟨pm,0,none⟩), .pointer (some ⟨pw,0,none⟩), .pointer (some ⟨ps,0,none⟩), .pointer (some ⟨po,0,none⟩)] w fun e w'=>
   e= .returned (.tuple #[])∧∃q,ak q (piece master.data.toList said.data.toList was.data.toList i)∧ac w' pm [.string master] 9∧ac w' pw [.string q] 9∧ac w' ps [.string said] 9∧ac w' po [.string (out++q)] 9∧
    ∀B a,Below B a w→B≤pw→B≤po→B≤w.heap.size→Below B a w':=by
 have hi':(i:Int)<255:=by omega
 have cm:=Bm.cell (i:=0) rfl
 have cw:=Bw.cell (i:=0) rfl
 have cs:=Bs.cell (i:=0) rfl
 have HM:=Lib.hid Bm;clear Bm
 have HW:=Lib.hid Bw;clear Bw
 have HS:=Lib.hid Bs;clear Bs
 have HO:=Lib.hid Bo;clear Bo
 obtain⟨c,Hc⟩:∃c,Hid (c=UInt8.ofNat (i+1)):=⟨_,rfl⟩
 have ec:((i:Int)+1)=(((c.toNat:Nat)):Int):=by rw[Hc.out];simp;omega
 have EC:=Lib.hid ec;clear ec
 go_enter Tryz.func246,Tryz.ntmps246
 go_wp2_with (first
  |((with_reducible refine bD 217 5 1 ?parts [.int .u8 ((i:Int)+1)] (.int .u8 0) 1 1 (some 12) Tryz.underlying217 infoByte (by omega) (by omega) ?hgd ?ho ?hd ?hf ?_);(case hgd|ho|hd=>rfl);(case hf=>kernel_rfl);(intro g w1 l1 B1 e1 z1);(have HB1:Hid (ac w1 g (bytesV [c]) 5):=B1.ext (by rw[EC.out];rfl));(clear B1))
  |((with_reducible refine eS 217 9 5 (.tmp 12) [c] g 0 1 1 (some 13) Tryz.underlying217 Tryz.underlying5 Tryz.underlying9 HB1.out.range (List.length_singleton (a:=c)).symm ?hgd ?ho ?hd ?hx ?_);(case hgd|ho|hd|hx=>rfl))
  |((with_reducible refine bD 64 9 3 ?parts2 [.string was, .string said,str [c]] (.string ⟨#[]⟩) 1 16 (some 14) Tryz.underlying64 Av (by omega) (by omega) ?hgd ?ho ?hd ?hf ?_);(case hgd|ho|hd=>rfl);(case hf=>kernel_rfl);(intro g2 w2 l2 B2 e2 z2)))
 refine(Dn master g2 3 3 [was,said,⟨[c].toArray⟩] _ _ hm B2 rfl (by simp) (by simp) ?_).mono ?_
 ·simp[cX];show was.size+(said.size+1)≤_;omega
 rintro e w3 ⟨q,rfl,tq,hb3⟩
 have q0:=HW.out.lt
 have q1:=HO.out.lt
 have q2:=HS.out.lt
 have q3:=HM.out.lt
 have HW3:Hid (ac w3 pw [.string was] 9):=((HW.out.below e1 (by omega)).below e2 (by omega)).below hb3 (by omega)
 have HO3:Hid (ac w3 po [.string out] 9):=((HO.out.below e1 (by omega)).below e2 (by omega)).below hb3 (by omega)
 have HS3:Hid (ac w3 ps [.string said] 9):=((HS.out.below e1 (by omega)).below e2 (by omega)).below hb3 (by omega)
 have HM3:Hid (ac w3 pm [.string master] 9):=((HM.out.below e1 (by omega)).below e2 (by omega)).below hb3 (by omega)
 have cw3:=HW3.out.cell (i:=0) rfl
 have fw3:=HW3.out.free 0
 have co3:=HO3.out.cell (i:=0) rfl
 have fo3:=HO3.out.free 0
 have hwo:¬pw=po:=hne.1
 have hqs:q.size≤32:=by rw[tq.size,dR];omega
 have HNE:=Lib.hid hne;clear hne
 clear cm cw cs B2
 go_wp2_with fail
 go_end0
 have hn:=HNE.out
 have eq:piece master.data.toList said.data.toList was.data.toList i=nh master.data.toList (cX [was,said,⟨[c].toArray⟩]):=by
  unfold piece
  rw[←Hc.out]
  simp[cX]
 refine⟨rfl,q,tq.cast eq.symm, ?_, ?_, ?_, ?_, ?_⟩
 ·exact(HM3.out.set_other (by show pm≠pw;omega) _).set_other (by show pm≠po;omega) _
 ·exact(HW3.out.set 0 _).set_other (by show pw≠po;omega) _
 ·exact(HS3.out.set_other (by show ps≠pw;omega) _).set_other (by show ps≠po;omega) _
 ·exact(HO3.out.set_other (by show po≠pw;omega) _).set 0 _
 ·intro B a hB b1 b2 b3
  have y1:=e1.size
  have y2:=e2.size
  exact((((hB.trans (e1.mono (by omega))).trans (e2.mono (by omega))).trans (hb3.mono (by omega))).setCell (by show B≤pw;omega) _).setCell (by show B≤po;omega) _
theorem j9 (w:World):Sem.run Tryz.prog (zeroValue 9) w= .ok (.string ⟨#[]⟩) w:=by kernel_rfl
def Gj (master label:List UInt8) (n:Int) (e:Ending):Prop:=
 (0≤n∧n≤8160∧cK label []=true∧∃r,e= .returned (.tuple #[.string r, .int .i64 0])∧ak r (nX master label n.toNat))∨
 ((n<0∨8160<n∨cK label []=false)∧e= .returned (.tuple #[.string ⟨#[]⟩, .int .i64 2]))
theorem Dp (master label:ByteArray) (n:Int) (w:World) (hm:master.size≤16777216):
  Calls Tryz.prog 143 #[.string master, .string label, .int .i64 n] w fun e w'=>Gj master.data.toList label.data.toList n e∧Below w.heap.size w w':=by
 by_cases c1:n<0
 ·go_enter Tryz.func143,Tryz.ntmps143
  go_wp2_with ((with_reducible refine aw 9 (.tmp 0) (.string master) rfl (some 3) ?hgd ?ho ?hd ?hx ?_);(case hgd|ho|hd|hx=>rfl);(intro pm w1 l1 B1 e1 z1))
  go_ret2
  exact⟨.inr ⟨.inl c1,rfl⟩,e1.mono l1⟩
 ·by_cases c2:8160<n
  ·have c1':0≤n:=by omega
   go_enter Tryz.func143,Tryz.ntmps143
   go_wp2_with ((with_reducible refine aw 9 (.tmp 0) (.string master) rfl (some 3) ?hgd ?ho ?hd ?hx ?_);(case hgd|ho|hd|hx=>rfl);(intro pm w1 l1 B1 e1 z1))
   go_ret2
   exact⟨.inr ⟨.inr (.inl c2),rfl⟩,e1.mono l1⟩
  ·obtain⟨m,rfl⟩:∃m:Nat,n=(m:Int):=⟨n.toNat,by omega⟩
   have c1':(0:Int)≤(m:Int):=by omega
   have c2':(m:Int)≤8160:=by omega
   obtain⟨q,Hq⟩:∃q,Hid (q=(m+31)/32):=⟨_,rfl⟩
   have eq:((m:Int)+32-1)/32=(q:Int):=by rw[Hq.out];omega
   have hq:q≤255:=by rw[Hq.out];omega
   go_enter Tryz.func143,Tryz.ntmps143
   go_wp2_with ((with_reducible refine aw 9 (.tmp 0) (.string master) rfl (some 3) ?hgd ?ho ?hd ?hx ?_);(case hgd|ho|hd|hx=>rfl);(intro pm w1 l1 B1 e1 z1))
   refine(sx label _ [] _ (bF.nil _) (fun j x h=>by simp at h) (by simp)).mono ?_
   rintro e w2 ⟨⟨hok,r,rfl,tr⟩|⟨hno,rfl⟩,hb2⟩
   ·have hr:r.size≤21:=by rw[tr.size,ni];have:=(qF hok).1;have e:label.data.toList.length=label.size:=rfl;simp;omega
    have HK:=Lib.hid hok;clear hok
    have BM:Hid (ac w2 pm [.string master] 9):=B1.below hb2 z1
    clear B1
    go_wp2_with (first
     |((with_reducible refine aG 9 (.string ⟨#[]⟩) j9 rfl (some 8) ?hgd ?ho ?hd ?_);(case hgd|ho|hd=>rfl);(intro ps w3 l3 B3 e3 z3);(have cs:=B3.cell (i:=0) rfl);(have fs:=B3.free 0))
     |((with_reducible refine aG 9 (.string ⟨#[]⟩) j9 rfl (some 10) ?hgd ?ho ?hd ?_);(case hgd|ho|hd=>rfl);(intro po w4 l4 B4 e4 z4))
     |((with_reducible refine aG 9 (.string ⟨#[]⟩) j9 rfl (some 11) ?hgd ?ho ?hd ?_);(case hgd|ho|hd=>rfl);(intro pw w5 l5 B5 e5 z5);(have co:=(B4.below e5 (by omega)).cell (i:=0) rfl);(have fo:=(B4.below e5 (by omega)).free 0);(have cw:=B5.cell (i:=0) rfl);(have fw:=B5.free 0)))
    have y2:=hb2.size
    have y3:w3.heap.size=(w3.setCell ⟨ps,0,none⟩ (.string r)).heap.size:=by simp
    have BM5:Hid (ac ((w5.setCell ⟨po,0,none⟩ (.string ⟨#[]⟩)).setCell ⟨pw,0,none⟩ (.string ⟨#[]⟩)) pm [.string master] 9):=by
     have h3:=(BM.out.below e3 (by omega)).set_other (a:=⟨ps,0,none⟩) (by show pm≠ps;omega) (.string r)
     exact(((h3.below e4 (by omega)).below e5 (by omega)).set_other (by show pm≠po;omega) _).set_other (by show pm≠pw;omega) _
    have BS5:Hid (ac ((w5.setCell ⟨po,0,none⟩ (.string ⟨#[]⟩)).setCell ⟨pw,0,none⟩ (.string ⟨#[]⟩)) ps [.string r] 9):=by
     have h3:ac (w3.setCell ⟨ps,0,none⟩ (.string r)) ps [.string r] 9:=B3.set 0 _
     have hs3:ps<(w3.setCell ⟨ps,0,none⟩ (.string r)).heap.size:=h3.lt
     exact(((h3.below e4 (by omega)).below e5 (by omega)).set_other (by show ps≠po;omega) _).set_other (by show ps≠pw;omega) _
    have BO5:Hid (ac ((w5.setCell ⟨po,0,none⟩ (.string ⟨#[]⟩)).setCell ⟨pw,0,none⟩ (.string ⟨#[]⟩)) po [.string ⟨#[]⟩] 9):=
     ((B4.below e5 (by omega)).set 0 _).set_other (by show po≠pw;omega) _
    have BW5:Hid (ac ((w5.setCell ⟨po,0,none⟩ (.string ⟨#[]⟩)).setCell ⟨pw,0,none⟩ (.string ⟨#[]⟩)) pw [.string ⟨#[]⟩] 9):=
     (B5.set_other (by show pw≠po;omega) _).set 0 _
    have hbel:Below w.heap.size w ((w5.setCell ⟨po,0,none⟩ (.string ⟨#[]⟩)).setCell ⟨pw,0,none⟩ (.string ⟨#[]⟩)):=
     (((((((e1.mono l1).trans (hb2.mono (by omega))).trans (e3.mono (by omega))).setCell (by show w.heap.size≤ps;omega) _).trans (e4.mono (by omega))).trans (e5.mono (by omega))).setCell (by show w.heap.size≤po;omega) _).setCell (by show w.heap.size≤pw;omega) _
    have hlo:w.heap.size≤pm∧pm<ps∧ps<po∧po<pw:=by omega
    have HBEL:=Lib.hid hbel
    clear hbel B3 B4 B5 e1 e3 e4 e5 hb2 cs fs co fo cw fw y3 y2 l1 l3 l4 l5 z1 z3 z4 z5 BM
    obtain⟨S,HS⟩:∃S,Hid (S=jW label.data.toList []):=⟨_,rfl⟩
    have tr':ak r S:=by rw[HS.out];exact tr
    clear tr
    rw[eq]
    clear eq
    go_loopw [33] (fun i wr=>∃(k:Nat) (was out:ByteArray),k≤q∧i= .int .i64 k∧ak was (lU master.data.toList S k)∧ak out (pieces master.data.toList S k)∧ac wr pm [.string master] 9∧ac wr pw [.string was] 9∧ac wr ps [.string r] 9∧ac wr po [.string out] 9∧Below w.heap.size w wr) (fun i _=>q-(intOf i).toNat)
    case atStart=>exact⟨0,⟨#[]⟩,⟨#[]⟩,by omega,rfl,ak.mk [],ak.mk [],BM5.out,BW5.out,BS5.out,BO5.out,HBEL.out⟩
    case round=>
     clear BM5 BW5 BS5 BO5 HBEL
     obtain⟨k,was,out,hk,rfl,tw,tou,bm,bw,bs,bo,hbel⟩:=hrel
     have sw:was.size≤32:=by
      rw[tw.size]
      cases k with
      |zero=>simp[lU]
      |succ k=>rw[lV];omega
     have so:out.size=32*k:=by rw[tou.size,mO]
     have so':out.size≤8160:=by omega
     have SO:=Lib.hid so;clear so
     have hpo:po<wr.heap.size:=bo.lt
     have hco:=bo.cell (i:=0) rfl
     have M:=Lib.hid bm;clear bm
     have W:=Lib.hid bw;clear bw
     have S1:=Lib.hid bs;clear bs
     have O:=Lib.hid bo;clear bo
     by_cases hlt:k<q
     ·have hlt':(k:Int)<q:=by omega
      go_wp2_with fail
      refine(Do pm pw ps po master r was out k _ hm (by omega) sw (by omega) (by omega) M.out W.out S1.out O.out (by omega)).mono ?_
      rintro e w6 ⟨rfl,p,tp,m6,b6,s6,o6,hb6⟩
      have H6:Hid (Below w.heap.size w w6):=hb6 _ _ hbel (by omega) (by omega) (by have:=hbel.size;omega)
      have M6:=Lib.hid m6
      have W6:=Lib.hid b6
      have S6:=Lib.hid s6
      have O6:=Lib.hid o6
      clear m6 b6 s6 o6 hb6 hco
      go_wp2_with fail
      go_roundw
      case rel=>
       refine⟨k+1,p,out++p,by omega,by go_num, ?_, ?_,M6.out,W6.out,S6.out,O6.out,H6.out⟩
       ·refine tp.cast ?_
        rw[tr',tw];rfl
       ·refine(tou.append tp).cast ?_
        rw[tr',tw];rfl
      case measure=>simp[intOf];omega
     ·obtain rfl:k=q:=by omega
      have hmo:(m:Int)≤out.size:=by have:=SO.out;have:=Hq.out;omega
      have hmo':m≤out.size:=by omega
      go_wp2_with fail
      go_ret2
      refine⟨.inl ⟨c1',c2',HK.out,_,rfl, ?_⟩,hbel⟩
      refine(tou.extract 0 m).cast ?_
      rw[Int.toNat_natCast,List.drop_zero,nX,←Hq.out,HS.out]
   ·have HN:=Lib.hid hno;clear hno
    go_wp2_with ((with_reducible refine aG 9 (.string ⟨#[]⟩) j9 rfl (some 8) ?hgd ?ho ?hd ?_);(case hgd|ho|hd=>rfl);(intro ps w3 l3 B3 e3 z3);(have cs:=B3.cell (i:=0) rfl);(have fs:=B3.free 0))
    go_ret2
    have y2:=hb2.size
    exact⟨.inr ⟨.inr (.inr HN.out),rfl⟩,(((e1.mono l1).trans (hb2.mono (by omega))).trans (e3.mono (by omega))).setCell (by show w.heap.size≤ps;omega) _⟩
def I5:List UInt8:=[84,104,101,32,113,117,105,99,107,32,98,114,111,119,110,32,102,111,120,32,106,117,109,112,115,32,111,118,101,114,32,116,104,101,32,108,97,122,121,32,100,111,103]
theorem Gk:(Tryz.prog.info? 3).map (fun i=>(i.zero,i.size,i.bytes))=some (some (.int .i64 0),1,8):=by kernel_rfl
theorem bF.blk {w:World} {g:Nat} {xs:List Int} {t:TypeId} (h:ac w g (xs.map (Value.int .i64)) t) {n:Nat} (hn:n=xs.length) (c:Nat):bF w (.slice (some ⟨g,0,none⟩) n c) xs:=by
 subst hn
 refine .inr ⟨g,0,c,rfl,h.lt,fun j x hx=> ?_⟩
 rw[Nat.zero_add]
 exact h.cell (by simp[hx])
open Go.ChangeShapes Go.WideShapes
def Fits (x:Int):Prop:=-9223372036854775808≤x∧x≤9223372036854775807
structure IntsIn (w:World) (v:Value) (xs:List Int):Prop where
 row:bF w v xs
 fits:∀(j:Nat) (x:Int),xs[j]?=some x→Fits x
section
variable {H:Type} {enc:TypeId×Value→H} {P:Program} {w:World} {base:Nat} {spare:Nat→Bool} {held:Bool}
structure nK (w:World) (v:Value) (xs:List ByteArray):Prop where
 row:(xs=[]∧∃(p:Option Addr) (c:Nat),v= .slice p 0 c)∨
  ∃g o c,v= .slice (some ⟨g,o,none⟩) xs.length c∧xs.length≤c∧g<w.heap.size∧∀(j:Nat) (x:ByteArray),xs[j]?=some x→w.cell? ⟨g,o+j,none⟩=some (.string x)
theorem EJ {t:TypeId} {v:Value} {d:DataW H} {ps:List MemPlace} (h:DataW.Trod enc P w base spare held t v d ps):∀x∈ps,x.block<w.heap.size:=by
 obtain⟨m,hm⟩:=h
 exact DataW.trod_lt m _ _ _ hm
end
theorem IntsIn.below {w w':World} {v:Value} {xs:List Int} (h:IntsIn w v xs) {B:Nat} (hb:Below B w w') (hB:w.heap.size≤B):IntsIn w' v xs:=⟨h.row.below hb hB,h.fits⟩
theorem nK.below {w w':World} {v:Value} {xs:List ByteArray} (h:nK w v xs) {B:Nat} (hb:Below B w w') (hB:w.heap.size≤B):nK w' v xs:=by
 refine⟨h.row.imp id ?_⟩
 rintro⟨g,o,c,h1,hc,h2,h3⟩
 exact⟨g,o,c,h1,hc,by have:=hb.size;omega,fun j x hx=>by rw[hb.cell (by show g<B;omega)];exact h3 j x hx⟩
structure I64 (n:Int):Prop where
 lt:n<9223372036854775808
def aW (l:List UInt8):Nat:=l.foldl (fun n b=>256*n+b.toNat) 0
theorem mJ (l:List UInt8) (b:UInt8):aW (l++[b])=256*aW l+b.toNat:=by simp[aW]
theorem ka (l:List UInt8) (k:Nat) (h:k<l.length):aW (l.take (k+1))=256*aW (l.take k)+l[k].toNat:=by
 rw[List.take_succ_eq_append_getElem h,mJ]
theorem Aw (l:List UInt8) (k:Nat):aW (l.take k)≤aW l:=by
 by_cases h:k<l.length
 ·have:∀m,aW (l.take k)≤aW (l.take (k+m)):=by
   intro m
   induction m with
   |zero=>exact Nat.le_refl _
   |succ m ih=>
    by_cases hm:k+m<l.length
    ·rw[←Nat.add_assoc,ka _ _ hm];omega
    ·rw[←Nat.add_assoc,List.take_of_length_le (i:=k+m+1) (by omega)];rw[List.take_of_length_le (i:=k+m) (by omega)]at ih;exact ih
  have:=this (l.length-k)
  rwa[List.take_of_length_le (i:=k+(l.length-k)) (by omega)]at this
 ·rw[List.take_of_length_le (by omega)];exact Nat.le_refl _
theorem iu (l:List UInt8):aW l<256^l.length:=by
 have:∀k,k≤l.length→aW (l.take k)<256^k:=by
  intro k hk
  induction k with
  |zero=>simp[aW]
  |succ k ih=>
   have h1:=ih (by omega)
   have h2:=(l[k]'(by omega)).toNat_lt
   rw[ka _ _ (by omega),Nat.pow_succ]
   omega
 have:=this l.length (Nat.le_refl _)
 rwa[List.take_length]at this
def Ig (l:List UInt8) (e:Ending):Prop:=
 ((1≤l.length∧l.length≤8∧aW l<9223372036854775808)∧e= .returned (.tuple #[.int .i64 ((aW l:Nat):Int), .int .i64 0]))∨
 (¬(1≤l.length∧l.length≤8∧aW l<9223372036854775808)∧e= .returned (.tuple #[.int .i64 0, .int .i64 3]))
theorem Ax (a b:Nat) (ha:a<9223372036854775808) (hb:b<9223372036854775808):bits .or .i64 (a:Int) (b:Int)=((a|||b:Nat):Int):=by
 have hx:a|||b<2^63:=Nat.or_lt_two_pow (by omega) (by omega)
 show IntKind.i64.wrap ((BitVec.ofInt 64 (a:Int)|||BitVec.ofInt 64 (b:Int)).toNat:Int)= _
 rw[BitVec.toNat_or,ofInt_u64 a (by omega),ofInt_u64 b (by omega),IntKind.wrap_i64]
 omega
structure I4 (n:Nat):Prop where
 lt:n<4294967296
end Go.Proofs.YtngiibgdgenidaaGreat
