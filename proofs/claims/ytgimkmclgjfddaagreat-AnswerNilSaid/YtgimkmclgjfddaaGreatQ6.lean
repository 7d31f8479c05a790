/- Walks of the documents' functions on numbers (chapter 01): Put, Get, Text. Walks of the documents' functions on numbers (chapters 01, 02): Get, turn. Walks of the documents' functions on SHA-256 (chapter 02): Begin, Rounds, Text, Pad. -/
import Derived.Test.YtgimkmclgjfddaaGreatQ5
import Derived.Test.YtgimkmclgjfddaaGreatQ2
set_option linter.unusedSimpArgs false
set_option linter.unusedVariables false
set_option maxRecDepth 100000
set_option maxHeartbeats 4000000
namespace Go.Proofs.YtgimkmclgjfddaaGreat
open Go Go.RowKit
structure I64 (n:Int):Prop where
 lt:n<9223372036854775808
theorem ge (n wd:Int) (w:World) (hn:n<9223372036854775808):
  Calls Tryz.prog 303 #[.int .i64 n, .int .i64 wd] w fun e w'=>Ends (0≤n∧1≤wd∧wd≤8∧n.toNat<256^wd.toNat) (beBytes wd.toNat n.toNat) 2 e∧Below w.heap.size w w':=by
 by_cases c1:wd<1
 ·go_enter Tryz.func303,Tryz.ntmps303
  go_wp2_with fail
  go_ret2
  exact⟨.inr ⟨by omega,rfl⟩,Below.refl _ _⟩
 by_cases c2:8<wd
 ·have d1:1≤wd:=by omega
  go_enter Tryz.func303,Tryz.ntmps303
  go_wp2_with fail
  go_ret2
  exact⟨.inr ⟨by omega,rfl⟩,Below.refl _ _⟩
 by_cases c3:n<0
 ·have d1:1≤wd:=by omega
  have d2:wd≤8:=by omega
  go_enter Tryz.func303,Tryz.ntmps303
  go_wp2_with fail
  go_ret2
  exact⟨.inr ⟨by omega,rfl⟩,Below.refl _ _⟩
 obtain⟨m,rfl⟩:∃m:Nat,n=(m:Int):=⟨n.toNat,by omega⟩
 obtain⟨d,rfl⟩:∃d:Nat,wd=(d:Int):=⟨wd.toNat,by omega⟩
 have d1:(1:Int)≤d:=by omega
 have d2:(d:Int)≤8:=by omega
 have d3:(0:Int)≤m:=by omega
 have HN:I64 (m:Int):=⟨hn⟩;clear hn
 clear c1 c2 c3
 go_enter Tryz.func303,Tryz.ntmps303
 go_wp2_with fail
 go_loopw [0,6,7] (fun a o i wr=>∃(k:Nat) (s:ByteArray),k≤d∧i= .int .i64 k∧a= .int .i64 ((m/256^k:Nat):Int)∧o= .string s∧aj s (beBytes k m)∧Below w.heap.size w wr) (fun a o i _=>d-(intOf i).toNat)
 case atStart=>exact⟨0,⟨#[]⟩,by omega,rfl,by simp,rfl,aj.mk [],Below.refl _ _⟩
 case round=>
  obtain⟨k,s,hk,rfl,rfl,rfl,ts,hbel⟩:=hrel
  obtain⟨x,Hx⟩:∃x,Hid (x=m/256^k):=⟨_,rfl⟩
  rw[←Hx.out]
  have x0:(0:Int)≤x:=by omega
  have x1:(x:Int)<9223372036854775808:=by
   have h1:=Nat.div_le_self m (256^k)
   have h2:=HN.lt
   have h3:=Hx.out
   rw[←h3]at h1
   clear h3
   omega
  have ss:s.size≤8:=by rw[ts.size,beBytes_length];omega
  by_cases hlt:k<d
  ·have hlt':(k:Int)<d:=by omega
   obtain⟨c,Hc⟩:∃c,Hid (c=UInt8.ofNat (x % 256)):=⟨_,rfl⟩
   have ec:((x:Int) % 256)=((c.toNat:Nat):Int):=by rw[Hc.out];simp
   have EC:=Lib.hid ec;clear ec
   obtain⟨q,hq,tq⟩:∃q,str [c]=Value.string q∧aj q [c]:=⟨_,rfl,aj.mk _⟩
   have sq:q.size≤1:=by rw[tq.size];simp
   have HQ:=Lib.hid hq;clear hq
   go_wp2_with (first
    |((with_reducible refine aS 205 5 1 ?parts [.int .u8 ((x:Int) % 256)] (.int .u8 0) 1 1 (some 26) Tryz.underlying205 infoByte (by omega) (by omega) ?hgd ?ho ?hd ?hf ?_);(case hgd|ho|hd=>rfl);(case hf=>kernel_rfl);(intro g w1 l1 B1 e1 z1);(have HB1:Hid (ab w1 g (bytesV [c]) 5):=B1.ext (by rw[EC.out];rfl));(clear B1))
    |((with_reducible refine bU 205 9 5 (.tmp 26) [c] g 0 1 1 (some 27) Tryz.underlying205 Tryz.underlying5 Tryz.underlying9 HB1.out.range (List.length_singleton (a:=c)).symm ?hgd ?ho ?hd ?hx ?_);(case hgd|ho|hd|hx=>rfl);(rw[HQ.out])))
   go_roundw
   case rel=>
    have y:=hbel.size
    refine⟨k+1,_,by omega,by go_num, ?_,rfl, ?_,hbel.trans (e1.mono (by omega))⟩
    ·rw[show m/256^(k+1)=x/256 by rw[Hx.out,Nat.pow_succ,Nat.div_div_eq_div_mul],Int.natCast_ediv];rfl
    ·refine(tq.append ts).cast ?_
     rw[mV,Hc.out,Hx.out];rfl
   case measure=>simp[intOf];omega
  ·obtain rfl:k=d:=by omega
   by_cases hx:0<x
   ·have hx':(0:Int)<x:=by omega
    go_wp2_with fail
    go_ret2
    refine⟨.inr ⟨?_,rfl⟩,hbel⟩
    rintro⟨_,_,_,h⟩
    have:x=0:=by rw[Hx.out];exact Nat.div_eq_of_lt (by simpa using h)
    omega
   ·have hx':(x:Int)≤0:=by omega
    have hx0:x=0:=by omega
    go_wp2_with fail
    go_ret2
    refine⟨.inl ⟨⟨by omega,by omega,by omega, ?_⟩,s,rfl,ts.cast (by simp)⟩,hbel⟩
    rw[Hx.out]at hx0
    have:=(Nat.div_eq_zero_iff (a:=m) (b:=256^k)).1 hx0
    rcases this with h|h
    ·exact absurd h (Nat.ne_of_gt (Nat.pow_pos (by decide)))
    ·simpa using h
def aR (l:List UInt8):Nat:=l.foldl (fun n b=>256*n+b.toNat) 0
theorem mL (l:List UInt8) (b:UInt8):aR (l++[b])=256*aR l+b.toNat:=by simp[aR]
theorem iS (l:List UInt8) (k:Nat) (h:k<l.length):aR (l.take (k+1))=256*aR (l.take k)+l[k].toNat:=by
 rw[List.take_succ_eq_append_getElem h,mL]
theorem Ar (l:List UInt8) (k:Nat):aR (l.take k)≤aR l:=by
 by_cases h:k<l.length
 ·have:∀m,aR (l.take k)≤aR (l.take (k+m)):=by
   intro m
   induction m with
   |zero=>exact Nat.le_refl _
   |succ m ih=>
    by_cases hm:k+m<l.length
    ·rw[←Nat.add_assoc,iS _ _ hm];omega
    ·rw[←Nat.add_assoc,List.take_of_length_le (i:=k+m+1) (by omega)];rw[List.take_of_length_le (i:=k+m) (by omega)]at ih;exact ih
  have:=this (l.length-k)
  rwa[List.take_of_length_le (i:=k+(l.length-k)) (by omega)]at this
 ·rw[List.take_of_length_le (by omega)];exact Nat.le_refl _
theorem gg (l:List UInt8):aR l<256^l.length:=by
 have:∀k,k≤l.length→aR (l.take k)<256^k:=by
  intro k hk
  induction k with
  |zero=>simp[aR]
  |succ k ih=>
   have h1:=ih (by omega)
   have h2:=(l[k]'(by omega)).toNat_lt
   rw[iS _ _ (by omega),Nat.pow_succ]
   omega
 have:=this l.length (Nat.le_refl _)
 rwa[List.take_length]at this
theorem As (l:List UInt8) (h:l.length=4):aR l=be32 l 0:=by
 match l,h with
 |[a,b,c,d],_=>simp[aR,be32];omega
def ID (l:List UInt8) (e:Ending):Prop:=
 ((1≤l.length∧l.length≤8∧aR l<9223372036854775808)∧e= .returned (.tuple #[.int .i64 ((aR l:Nat):Int), .int .i64 0]))∨
 (¬(1≤l.length∧l.length≤8∧aR l<9223372036854775808)∧e= .returned (.tuple #[.int .i64 0, .int .i64 3]))
theorem Au (s:ByteArray) (w:World) (h:s.size=4):
  Calls Tryz.prog 393 #[.string s] w fun e w'=>e= .returned (.tuple #[.int .i64 ((be32 s.data.toList 0:Nat):Int), .int .i64 0])∧w=w':=by
 have hl:s.data.toList.length=4:=h
 have HL:=Lib.hid hl;clear hl
 have h1:(s.size:Int)=4:=by omega
 have h2:s.size=4:=h
 clear h
 go_enter Tryz.func393,Tryz.ntmps393
 go_wp2_with fail
 go_loopw [4,5] (fun a i wr=>∃k:Nat,k≤4∧i= .int .i64 k∧a= .int .i64 ((aR (s.data.toList.take k):Nat):Int)∧w=wr) (fun a i _=>4-(intOf i).toNat)
 case atStart=>exact⟨0,by omega,rfl,rfl,rfl⟩
 case round=>
  obtain⟨k,hk,rfl,rfl,rfl⟩:=hrel
  obtain⟨x,Hx⟩:∃x,Hid (x=aR (s.data.toList.take k)):=⟨_,rfl⟩
  rw[←Hx.out]
  by_cases hlt:k<4
  ·have hlt':(k:Int)<4:=by omega
   have hk':k<s.size:=by omega
   have x0:x<4294967296:=by
    have h3:=gg (s.data.toList.take k)
    have h4:(s.data.toList.take k).length=k:=by rw[List.length_take,HL.out];omega
    rw[h4,←Hx.out]at h3
    exact Nat.lt_of_lt_of_le h3 (Nat.pow_le_pow_right (n:=256) (by omega) (show k≤4 by omega))
   have x1:(x:Int)<4294967296:=by omega
   have hb:=s[k].toNat_lt
   go_wp2_with fail
   go_roundw
   case rel=>
    refine⟨k+1,by omega,by go_num, ?_,by trivial⟩
    rw[iS _ _ (by rw[HL.out];exact hlt),←Hx.out]
    simp
    rfl
   case measure=>simp[intOf];omega
  ·obtain rfl:k=4:=by omega
   have e4:Hid (x=be32 s.data.toList 0):=by show x= _;rw[Hx.out,List.take_of_length_le (by rw[HL.out];omega),As _ HL.out]
   go_wp2_with fail
   go_ret2
   exact⟨by rw[e4.out];rfl,rfl⟩
theorem iT (a b:Nat) (ha:a<9223372036854775808) (hb:b<9223372036854775808):bits .or .i64 (a:Int) (b:Int)=((a|||b:Nat):Int):=by
 have hx:a|||b<2^63:=Nat.or_lt_two_pow (by omega) (by omega)
 show IntKind.i64.wrap ((BitVec.ofInt 64 (a:Int)|||BitVec.ofInt 64 (b:Int)).toNat:Int)= _
 rw[BitVec.toNat_or,ofInt_u64 a (by omega),ofInt_u64 b (by omega),IntKind.wrap_i64]
 omega
theorem dQ (a b:Nat) (ha:a<9223372036854775808) (hb:b<9223372036854775808):bits .xor .i64 (a:Int) (b:Int)=((a^^^b:Nat):Int):=by
 have hx:a^^^b<2^63:=Nat.xor_lt_two_pow (by omega) (by omega)
 show IntKind.i64.wrap ((BitVec.ofInt 64 (a:Int)^^^BitVec.ofInt 64 (b:Int)).toNat:Int)= _
 rw[BitVec.toNat_xor,ofInt_u64 a (by omega),ofInt_u64 b (by omega),IntKind.wrap_i64]
 omega
theorem gK (a b:Nat) (ha:a<9223372036854775808) (hb:b<9223372036854775808):bits .and .i64 (a:Int) (b:Int)=((a&&&b:Nat):Int):=by
 have hx:a&&&b<2^63:=Nat.and_lt_two_pow _ (by omega)
 show IntKind.i64.wrap ((BitVec.ofInt 64 (a:Int)&&&BitVec.ofInt 64 (b:Int)).toNat:Int)= _
 rw[BitVec.toNat_and,ofInt_u64 a (by omega),ofInt_u64 b (by omega),IntKind.wrap_i64]
 omega
theorem EU (x k:Nat) (hx:x<4294967296) (h0:0<k) (h1:k<32):
  (bits BinOp.or IntKind.i64 ((x:Int)/2^k) (wrap64 ((x:Int)*2^(32-k)))).tmod 4294967296=((bJ x k:Nat):Int):=by
 have e1:(x:Int)*2^(32-k)=((x*2^(32-k):Nat):Int):=by simp
 have e2:(x:Int)/2^k=((x/2^k:Nat):Int):=by simp
 have l0:(2:Nat)^(32-k)≤2^31:=Nat.pow_le_pow_right (by omega) (by omega)
 have l1:x*2^(32-k)<9223372036854775808:=by
  have:x*2^(32-k)≤x*2^31:=Nat.mul_le_mul_left _ l0
  omega
 have l2:x/2^k<9223372036854775808:=Nat.lt_of_le_of_lt (Nat.div_le_self _ _) (by omega)
 have e3:wrap64 ((x*2^(32-k):Nat):Int)=((x*2^(32-k):Nat):Int):=IntWalk.wrap64_in _ (by omega)
 rw[e1,e2,e3,iT _ _ l2 l1,Int.tmod_eq_emod_of_nonneg (Int.natCast_nonneg _)]
 unfold bJ
 rw[Nat.shiftRight_eq_div_pow,Nat.shiftLeft_eq]
 rfl
theorem fl (x:Nat) (k:Int) (w:World) (hx:x<4294967296) (h0:0<k) (h1:k<32):
  Calls Tryz.prog 394 #[.int .i64 x, .int .i64 k] w fun e w'=>e= .returned (.int .i64 ((bJ x k.toNat:Nat):Int))∧∃n,w'=w.drewN n:=by
 have hf:Hid _:=EU x k.toNat hx (by omega) (by omega)
 have d0:(0:Int)≤k:=by omega
 have d1:(0:Int)≤32-k:=by omega
 have d2:(x:Int)<4294967296:=by omega
 go_enter Tryz.func394,Tryz.ntmps394
 go_wp2
 go_quiet (fail)
 go_wp2
 go_ret
 refine⟨?_,_,rfl⟩
 show Ending.returned (Value.int IntKind.i64 _)= _
 rw[←hf.out,show(32-k).toNat=32-k.toNat by omega]
def bz (l:List Nat):List Value:=l.map (fun n=> .int .i64 ((n:Nat):Int))
theorem jI (l:List Nat):(bz l).length=l.length:=by simp[bz]
theorem mM (l:List Nat):∀v∈bz l,v.oneCell'=true:=by
 intro v hv
 obtain⟨_,_,rfl⟩:=List.mem_map.1 hv
 rfl
theorem fp (l:List Nat) (i:Nat) (hi:i<l.length):(bz l)[i]?=some (.int .i64 ((l.getD i 0:Nat):Int)):=by
 simp[bz,hi]
def S8.rcells (s:S8):List Value:=[.int .i64 s.a, .int .i64 s.b, .int .i64 s.c, .int .i64 s.d, .int .i64 s.e, .int .i64 s.f, .int .i64 s.g, .int .i64 s.h]
def S8.rval (s:S8):Value:= .agg s.rcells.toArray
theorem S8.rcells_l (s:S8):s.rcells=bz s.l:=rfl
theorem S8.rcells_one (s:S8):∀v∈s.rcells,v.oneCell'=true:=mM s.l
def iw (n:Nat):List Value:=List.replicate n (.int .i64 0)
theorem yI (w:World):Sem.run Tryz.prog (zeroValue 394) w= .ok (.agg (iw 64).toArray) w:=by kernel_rfl
theorem vN (w:World):Sem.run Tryz.prog (zeroValue 392) w= .ok (.agg S8.zero.rcells.toArray) w:=by kernel_rfl
theorem yJ:(Tryz.prog.info? 394).map (·.size)=some 64:=by kernel_rfl
theorem gP (s:S8):(Tryz.prog.info? 392).map (·.size)=some s.rcells.length:=by kernel_rfl
theorem xP (w:World):
  Calls Tryz.prog 352 #[] w fun e w'=>e= .returned S8.first.rval∧Below w.heap.size w w':=by
 go_enter Tryz.func352,Tryz.ntmps352
 go_wp2
 exact bodyPost_ret (v:=S8.first.rval) (by simp[results,Tryz.results352,go_sem];rfl) rfl ⟨rfl,((Below.refl _ _).alloc (Nat.le_refl _) _)⟩
theorem vO (w:World):
  Calls Tryz.prog 353 #[] w fun e w'=>e= .returned (.agg (bz bF).toArray)∧Below w.heap.size w w':=by
 have hi:Hid ((Tryz.prog.info? 394).map (·.size)=some (bz bF).length):=by show _= _;kernel_rfl
 have hz:Hid (ab (w.alloc (.cells (List.replicate 64 (Value.int .i64 0)).toArray 394)) w.heap.size (List.replicate 64 (.int .i64 0)) 394):=ab.new _ _ _
 have hb:Hid (Below w.heap.size w (w.alloc (.cells (List.replicate 64 (Value.int .i64 0)).toArray 394))):=(Below.refl _ _).alloc (Nat.le_refl _) _
 have hl:Hid ((bz bF).length=(List.replicate 64 (Value.int .i64 0)).length):=by show _= _;rfl
 go_enter Tryz.func353,Tryz.ntmps353
 go_wp2_with (first
  |((with_reducible refine aw 394 ?parts (bz bF) ?hgd ?ho ?hf ?_);(case hgd|ho=>rfl);(case hf=>kernel_rfl))
  |((with_reducible refine fB 394 (.tmp 0) (.tmp 1) w.heap.size (List.replicate 64 (Value.int .i64 0)) (bz bF) 394 ?hz ?hl hi.out (mM _) ?hgd ?ho ?hx ?hy ?_);(case hgd|ho|hx=>rfl);(case hz=>exact hz.out);(case hl=>exact hl.out);(case hy=>rfl))
  |((with_reducible refine bodyPost_ret (v:= .agg (bz bF).toArray) ?hr ?hd ?hR)
    (case hd=>rfl)
    (case hR=>exact⟨rfl,Below.setCells (Nat.le_refl _) _ _ hb.out⟩)
    (case hr=>exact results_cell_row rfl _ _ w.heap.size _ _ _ _ rfl (hz.out.setAll (bz bF) hl.out) Tryz.underlying394 rfl (by rw[List.size_toArray];exact hi.out))))
theorem S8.l_lt {s:S8} (h:s.ok) (k:Nat):s.l.getD k 0<4294967296:=by
 obtain⟨h1,h2,h3,h4,h5,h6,h7,h8⟩:=h
 match k with
 |0=>exact h1
 |1=>exact h2
 |2=>exact h3
 |3=>exact h4
 |4=>exact h5
 |5=>exact h6
 |6=>exact h7
 |7=>exact h8
 |k+8=>simp[S8.l]
theorem Av (s:S8) (hs:s.ok) (w:World):
  Calls Tryz.prog 355 #[s.rval] w fun e w'=>∃r,e= .returned (.string r)∧aj r s.text∧Below w.heap.size w w':=by
 go_enter Tryz.func355,Tryz.ntmps355
 go_wp2_with ((with_reducible refine ag 392 (.tmp 0) s.rcells (some 1) ?hgd ?ho ?hd ?hx ?_);(case hgd|ho|hd|hx=>rfl);(intro b w1 l1 B1 e1 z1))
 have hbel0:=e1.mono l1
 go_loopw [3,4] (fun o i wr=>∃(k:Nat) (r:ByteArray),k≤8∧i= .int .i64 k∧o= .string r∧aj r (ga s.l k)∧ab wr b s.rcells 392∧Below w.heap.size w wr) (fun o i _=>8-(intOf i).toNat)
 case atStart=>exact⟨0,⟨#[]⟩,by omega,rfl,rfl,aj.mk [],B1,hbel0⟩
 case round=>
  clear B1 hbel0 e1 z1
  obtain⟨k,r,hk,rfl,rfl,tr,hB,hbel⟩:=hrel
  have hr:r.size≤32:=by rw[tr.size,mW _ _ (by show k≤8;omega)];omega
  by_cases hlt:k<8
  ·have hlt':(k:Int)<8:=by omega
   obtain⟨x,Hx⟩:∃a,Hid (a=s.l.getD k 0):=⟨_,rfl⟩
   have hx:x<4294967296:=by rw[Hx.out];exact S8.l_lt hs k
   have hc:wr.cell? ⟨b,k,none⟩=some (.int .i64 x):=by rw[Hx.out];exact hB.cell (by rw[S8.rcells_l];exact fp _ _ (by exact hlt))
   have HB:=Lib.hid hB;clear hB
   go_wp2_with fail
   refine(ge x 4 _ (by omega)).mono ?_
   rintro e w2 ⟨he,hb2⟩
   obtain⟨q,rfl,tq⟩:=he.yes ⟨by omega,by omega,by omega,by simpa using hx⟩
   clear he
   have hq:q.size≤4:=by rw[tq.size,beBytes_length];simp
   go_wp2_with fail
   go_roundw
   case rel=>
    have y:=hbel.size
    have z:=HB.out.lt
    refine⟨k+1,_,by omega,by go_num,rfl, ?_,HB.out.below hb2 z,hbel.trans (hb2.mono y)⟩
    refine(tr.append tq).cast ?_
    rw[oU _ _ hlt,←Hx.out];rfl
   case measure=>simp[intOf];omega
  ·obtain rfl:k=8:=by omega
   have HB:=Lib.hid hB;clear hB
   go_wp2_with fail
   go_ret
   exact⟨r,rfl,tr.cast (qz s),hbel⟩
def eM (blk:List UInt8) (k:Nat):List Value:=bz (aO blk k++List.replicate (64-k) 0)
theorem jV (blk:List UInt8) (k i:Nat) (hi:i<k):(eM blk k)[i]?=some (.int .i64 (((aO blk k).getD i 0:Nat):Int)):=by
 have hl:=bX blk k
 simp[eM,bz,List.getElem?_append,hl,hi]
theorem xQ (blk:List UInt8) (k:Nat) (hk:k<64):(eM blk k)[k]?=some (.int .i64 0):=by
 have hl:=bX blk k
 unfold eM bz
 rw[show List.replicate (64-k) 0=0::List.replicate (64-(k+1)) 0 by rw[←List.replicate_succ];congr 1;omega]
 simp[hl]
theorem xR (blk:List UInt8) (k:Nat) (hk:k<64):(eM blk k).set k (.int .i64 ((eB blk (aO blk k):Nat):Int))=eM blk (k+1):=by
 have hl:=bX blk k
 unfold eM bz
 rw[show List.replicate (64-k) 0=0::List.replicate (64-(k+1)) 0 by rw[←List.replicate_succ];congr 1;omega]
 simp only[aO,List.map_append,List.map_cons,List.map_nil,List.append_assoc]
 rw[List.set_append_right _ _ (by simp[hl])]
 simp[hl]
theorem vP (blk:List UInt8):eM blk 0=iw 64:=by simp[eM,bz,aO,iw]
theorem xT (blk:List UInt8):eM blk 64=bz (aO blk 64):=by simp[eM]
theorem DC (l:List UInt8) (k:Nat):be32 ((l.take (4*k+4)).drop (4*k)) 0=be32 l k:=by
 simp[be32,List.getElem?_drop]
theorem EV (x:Nat) (hx:x<4294967296):bits BinOp.xor IntKind.i64 (bits BinOp.xor IntKind.i64 ((bJ x 7:Nat):Int) ((bJ x 18:Nat):Int)) (wrap64 ((x:Int)/8))=((uV x:Nat):Int):=by
 have h1:=bR x 7
 have h2:=bR x 18
 have h3:=dw h1 h2
 have e:wrap64 ((x:Int)/8)=((x/8:Nat):Int):=by rw[IntWalk.wrap64_in _ (by omega)];simp
 rw[e,dQ _ _ (by omega) (by omega),dQ _ _ (by omega) (by omega)];rfl
theorem EW (x:Nat) (hx:x<4294967296):bits BinOp.xor IntKind.i64 (bits BinOp.xor IntKind.i64 ((bJ x 17:Nat):Int) ((bJ x 19:Nat):Int)) (wrap64 ((x:Int)/1024))=((uW x:Nat):Int):=by
 have h1:=bR x 17
 have h2:=bR x 19
 have h3:=dw h1 h2
 have e:wrap64 ((x:Int)/1024)=((x/1024:Nat):Int):=by rw[IntWalk.wrap64_in _ (by omega)];simp
 rw[e,dQ _ _ (by omega) (by omega),dQ _ _ (by omega) (by omega)];rfl
theorem DD (a b c d:Nat) (ha:a<4294967296) (hb:b<4294967296) (hc:c<4294967296) (hd:d<4294967296):
  (wrap64 (wrap64 (wrap64 ((a:Int)+(b:Int))+(c:Int))+(d:Int))).tmod 4294967296=(((a+b+c+d) % 4294967296:Nat):Int):=by
 rw[IntWalk.wrap64_in ((a:Int)+b) (by omega),IntWalk.wrap64_in ((a:Int)+b+c) (by omega),IntWalk.wrap64_in ((a:Int)+b+c+d) (by omega),Int.tmod_eq_emod_of_nonneg (by omega)]
 omega
theorem Gz (e:Nat):bits BinOp.xor IntKind.i64 (bits BinOp.xor IntKind.i64 ((bJ e 6:Nat):Int) ((bJ e 11:Nat):Int)) ((bJ e 25:Nat):Int)=((Fe e:Nat):Int):=by
 have h1:=bR e 6
 have h2:=bR e 11
 have h3:=bR e 25
 have h4:=dw h1 h2
 rw[dQ _ _ (by omega) (by omega),dQ _ _ (by omega) (by omega)];rfl
theorem GA (e:Nat):bits BinOp.xor IntKind.i64 (bits BinOp.xor IntKind.i64 ((bJ e 2:Nat):Int) ((bJ e 13:Nat):Int)) ((bJ e 22:Nat):Int)=((Fb e:Nat):Int):=by
 have h1:=bR e 2
 have h2:=bR e 13
 have h3:=bR e 22
 have h4:=dw h1 h2
 rw[dQ _ _ (by omega) (by omega),dQ _ _ (by omega) (by omega)];rfl
theorem GB (e f g:Nat) (he:e<4294967296) (hf:f<4294967296) (hg:g<4294967296):
  bits BinOp.or IntKind.i64 (bits BinOp.and IntKind.i64 (e:Int) (f:Int)) (bits BinOp.and IntKind.i64 (wrap64 (4294967295-(e:Int))) (g:Int))=((yr e f g:Nat):Int):=by
 have e1:wrap64 (4294967295-(e:Int))=((4294967295-e:Nat):Int):=by rw[IntWalk.wrap64_in _ (by omega)];omega
 have h1:=dI (b:=f) he
 have h2:(4294967295-e)&&&g<4294967296:=dI (by omega)
 rw[e1,gK _ _ (by omega) (by omega),gK _ _ (by omega) (by omega),iT _ _ (by omega) (by omega)];rfl
theorem EX (a b c:Nat) (ha:a<4294967296) (hb:b<4294967296) (hc:c<4294967296):
  bits BinOp.or IntKind.i64 (bits BinOp.or IntKind.i64 (bits BinOp.and IntKind.i64 (a:Int) (b:Int)) (bits BinOp.and IntKind.i64 (a:Int) (c:Int))) (bits BinOp.and IntKind.i64 (b:Int) (c:Int))=((yt a b c:Nat):Int):=by
 have h1:=dI (b:=b) ha
 have h2:=dI (b:=c) ha
 have h3:=dI (b:=c) hb
 have h4:=lM h1 h2
 rw[gK _ _ (by omega) (by omega),gK _ _ (by omega) (by omega),gK _ _ (by omega) (by omega),iT _ _ (by omega) (by omega),iT _ _ (by omega) (by omega)];rfl
theorem IE (a b c d e f g h k w:Nat) (he:e<4294967296) (hf:f<4294967296) (hg:g<4294967296) (hh:h<4294967296) (hk:k<4294967296) (hw:w<4294967296):
  wrap64 (wrap64 (wrap64 (wrap64 ((h:Int)+bits BinOp.xor IntKind.i64 (bits BinOp.xor IntKind.i64 ((bJ e 6:Nat):Int) ((bJ e 11:Nat):Int)) ((bJ e 25:Nat):Int))+
   bits BinOp.or IntKind.i64 (bits BinOp.and IntKind.i64 (e:Int) (f:Int)) (bits BinOp.and IntKind.i64 (wrap64 (4294967295-(e:Int))) (g:Int)))+(k:Int))+(w:Int))=((rH ⟨a,b,c,d,e,f,g,h⟩ k w:Nat):Int):=by
 have h1:=Bq e
 have h2:=Bt (f:=f) (g:=g) he
 rw[Gz,GB _ _ _ he hf hg,IntWalk.wrap64_in ((h:Int)+_) (by omega),IntWalk.wrap64_in ((h:Int)+_+_) (by omega),IntWalk.wrap64_in ((h:Int)+_+_+_) (by omega),IntWalk.wrap64_in _ (by omega)]
 simp[rH]
theorem IF (a b c d e f g h:Nat) (ha:a<4294967296) (hb:b<4294967296) (hc:c<4294967296):
  wrap64 (bits BinOp.xor IntKind.i64 (bits BinOp.xor IntKind.i64 ((bJ a 2:Nat):Int) ((bJ a 13:Nat):Int)) ((bJ a 22:Nat):Int)+
   bits BinOp.or IntKind.i64 (bits BinOp.or IntKind.i64 (bits BinOp.and IntKind.i64 (a:Int) (b:Int)) (bits BinOp.and IntKind.i64 (a:Int) (c:Int))) (bits BinOp.and IntKind.i64 (b:Int) (c:Int)))=((uX ⟨a,b,c,d,e,f,g,h⟩:Nat):Int):=by
 have h1:=Bn a
 have h2:=BC ha hb (c:=c)
 rw[GA,EX _ _ _ ha hb hc,IntWalk.wrap64_in _ (by omega)]
 simp[uX]
theorem pG (t u:Nat) (ht:t<1099511627776) (hu:u<1099511627776):(wrap64 ((t:Int)+(u:Int))).tmod 4294967296=(((t+u) % 4294967296:Nat):Int):=by
 rw[IntWalk.wrap64_in _ (by omega),Int.tmod_eq_emod_of_nonneg (by omega)];omega
theorem IG {s:S8} {k w:Nat} (he:s.e<4294967296) (hh:s.h<4294967296) (hk:k<4294967296) (hw:w<4294967296):rH s k w<1099511627776:=by
 have h1:=Bq s.e
 have h2:=Bt (f:=s.f) (g:=s.g) he
 unfold rH;omega
theorem IH {s:S8} (ha:s.a<4294967296) (hb:s.b<4294967296):uX s<1099511627776:=by
 have h1:=Bn s.a
 have h2:=BC ha hb (c:=s.c)
 unfold uX;omega
theorem EY (y x:S8):bz (mix y.l x.l 8)=(y.add x).rcells:=by rfl
theorem EZ (y x:List Nat) (k:Nat) (hk:k<8):(bz (mix y x k)).set k (.int .i64 (((y.getD k 0+x.getD k 0) % 4294967296:Nat):Int))=bz (mix y x (k+1)):=by
 apply List.ext_getElem?
 intro i
 by_cases hi:i<8
 ·rw[List.getElem?_set]
  by_cases e:k=i
  ·subst e
   rw[if_pos rfl,if_pos (by simp[jI,cK,hi]),fp _ _ (by rw[cK];exact hi),jz _ _ _ _ hi,if_pos (by omega)]
  ·rw[if_neg e,fp _ _ (by rw[cK];exact hi),fp _ _ (by rw[cK];exact hi),jz _ _ _ _ hi,jz _ _ _ _ hi]
   by_cases h:i<k
   ·rw[if_pos h,if_pos (by omega)]
   ·rw[if_neg h,if_neg (by omega)]
 ·rw[List.getElem?_eq_none (by simp[jI,cK];omega),List.getElem?_eq_none (by simp[jI,cK];omega)]
structure Fq (w0:World) (s:S8) (b3 b6 b13:Nat) (y:List Nat) (w:World):Prop where
 x:ab w b3 (bz s.l) 392
 out:ab w b6 S8.zero.rcells 392
 y:ab w b13 (bz y) 392
 bel:Below w0.heap.size w0 w
 lo:w0.heap.size≤b3∧b3<b6∧b6<b13
theorem DF (k:Nat):bF.getD k 0<4294967296:=by
 by_cases h:k<64
 ·have:∀i,i<64→bF.getD i 0<4294967296:=by decide
  exact this k h
 ·rw[List.getD_eq_getElem?_getD,List.getElem?_eq_none (by show 64≤k;omega)];decide
structure fO (n:Nat):Prop where
 lt:n<4294967296
structure iU (w0:World) (s:S8) (bl:List UInt8) (b3 b5 b6 b7:Nat) (k:Nat) (w:World):Prop where
 x:ab w b3 s.rcells 392
 ks:ab w b5 (bz bF) 394
 out:ab w b6 S8.zero.rcells 392
 ws:ab w b7 (eM bl k) 394
 bel:Below w0.heap.size w0 w
 lo:w0.heap.size≤b3∧b3<b5∧b5<b6∧b6<b7
theorem iU.drewN {w0:World} {s:S8} {bl:List UInt8} {b3 b5 b6 b7 k:Nat} {w:World} (h:iU w0 s bl b3 b5 b6 b7 k w) (n:Nat):iU w0 s bl b3 b5 b6 b7 k (w.drewN n):=
 ⟨h.x.drewN n,h.ks.drewN n,h.out.drewN n,h.ws.drewN n,Below.drewN h.bel n,h.lo⟩
theorem iU.drew {w0:World} {s:S8} {bl:List UInt8} {b3 b5 b6 b7 k:Nat} {w:World} (h:iU w0 s bl b3 b5 b6 b7 k w):iU w0 s bl b3 b5 b6 b7 k w.drew:=
 ⟨h.x.drew,h.ks.drew,h.out.drew,h.ws.drew,h.bel.drew,h.lo⟩
theorem iU.next {w0:World} {s:S8} {bl:List UInt8} {b3 b5 b6 b7 k:Nat} {w:World} (h:iU w0 s bl b3 b5 b6 b7 k w) (hk:k<64) {x:Nat} (hx:x=eB bl (aO bl k)):
  iU w0 s bl b3 b5 b6 b7 (k+1) (w.setCell ⟨b7,k,none⟩ (.int .i64 ((x:Nat):Int))):=by
 subst hx
 have hl:=h.lo
 exact⟨h.x.set_other (by show b3≠b7;omega) _,h.ks.set_other (by show b5≠b7;omega) _,h.out.set_other (by show b6≠b7;omega) _,(h.ws.set k _).ext (xR _ _ hk),h.bel.setCell (by show w0.heap.size≤b7;omega) _,hl⟩
structure oi (w0:World) (s:S8) (ws:List Nat) (b3 b5 b6 b7 b13:Nat) (y:S8) (w:World):Prop where
 x:ab w b3 s.rcells 392
 ks:ab w b5 (bz bF) 394
 out:ab w b6 S8.zero.rcells 392
 ws:ab w b7 (bz ws) 394
 y:ab w b13 y.rcells 392
 bel:Below w0.heap.size w0 w
 lo:w0.heap.size≤b3∧b3<b5∧b5<b6∧b6<b7∧b7<b13
theorem oi.drewN {w0:World} {s:S8} {ws:List Nat} {b3 b5 b6 b7 b13:Nat} {y:S8} {w:World} (h:oi w0 s ws b3 b5 b6 b7 b13 y w) (n:Nat):oi w0 s ws b3 b5 b6 b7 b13 y (w.drewN n):=
 ⟨h.x.drewN n,h.ks.drewN n,h.out.drewN n,h.ws.drewN n,h.y.drewN n,Below.drewN h.bel n,h.lo⟩
theorem Aw (s:S8) (hs:s.ok) (blk:ByteArray) (w:World) (h:blk.size=64):
  Calls Tryz.prog 354 #[s.rval, .string blk, .agg (bz bF).toArray] w fun e w'=>e= .returned (qb s blk.data.toList).rval∧Below w.heap.size w w':=by
 have h0:blk.size≤64:=by omega
 have h1:64≤blk.size:=by omega
 clear h
 go_enter Tryz.func354,Tryz.ntmps354
 go_wp2_with (first
  |((with_reducible refine ag 392 (.tmp 0) s.rcells (some 3) ?hgd ?ho ?hd ?hx ?_);(case hgd|ho|hd|hx=>rfl);(intro b3 w3 l3 B3 e3 z3))
  |((with_reducible refine ag 394 (.tmp 2) (bz bF) (some 5) ?hgd ?ho ?hd ?hx ?_);(case hgd|ho|hd|hx=>rfl);(intro b5 w5 l5 B5 e5 z5))
  |((with_reducible refine ai 392 S8.zero.rcells vN (some 6) ?hgd ?ho ?hd ?_);(case hgd|ho|hd=>rfl);(intro b6 w6 l6 B6 e6 z6))
  |((with_reducible refine ai 394 (iw 64) yI (some 7) ?hgd ?ho ?hd ?_);(case hgd|ho|hd=>rfl);(intro b7 w7 l7 B7 e7 z7)))
 have hI:iU w s blk.data.toList b3 b5 b6 b7 0 w7:=by
  refine⟨((B3.below e5 (by omega)).below e6 (by omega)).below e7 (by omega),(B5.below e6 (by omega)).below e7 (by omega),B6.below e7 (by omega),B7.ext (vP _).symm, ?_,by omega⟩
  exact(((e3.mono l3).trans (e5.mono (by omega))).trans (e6.mono (by omega))).trans (e7.mono (by omega))
 clear B3 B5 B6 B7 e3 e5 e6 e7 z3 z5 z6 z7 l3 l5 l6 l7
 go_loopw [8] (fun i wr=>∃k:Nat,k≤64∧i= .int .i64 k∧iU w s blk.data.toList b3 b5 b6 b7 k wr) (fun i _=>64-(intOf i).toNat)
 case atStart=>exact⟨0,by omega,rfl,hI⟩
 case round=>
  clear hI
  obtain⟨k,hk,rfl,hI⟩:=hrel
  by_cases hlt:k<64
  ·have hlt':(k:Int)<64:=by omega
   have hfz:=hI.ws.free k
   have hck:=hI.ws.cell (xQ blk.data.toList k hlt)
   by_cases h16:k<16
   ·have h16':(k:Int)<16:=by omega
    have h4:(4:Int)*k+4≤blk.size:=by omega
    have h5:(4:Int)*k≤4*k+4:=by omega
    have h6:(0:Int)≤4*k:=by omega
    have h7:(0:Int)≤4*k+4:=by omega
    have HI:=Lib.hid hI;clear hI
    go_wp2_with fail
    refine(Au _ _ (by simp;omega)).mono ?_
    rintro e w' ⟨rfl,rfl⟩
    rw[extract_toList,DC]
    go_wp2_with fail
    go_roundw
    case rel=>exact⟨k+1,by omega,by go_num,HI.out.next hlt (oR _ _ h16).symm⟩
    case measure=>simp[intOf];omega
   ·have h16':(16:Int)≤k:=by omega
    obtain⟨i16,h16'⟩:∃i,i=k-16:=⟨_,rfl⟩
    obtain⟨i15,h15'⟩:∃i,i=k-15:=⟨_,rfl⟩
    obtain⟨i7,h7'⟩:∃i,i=k-7:=⟨_,rfl⟩
    obtain⟨i2,h2'⟩:∃i,i=k-2:=⟨_,rfl⟩
    obtain⟨a16,H16⟩:∃a,Hid (a=(aO blk.data.toList k).getD i16 0):=⟨_,rfl⟩
    obtain⟨a15,H15⟩:∃a,Hid (a=(aO blk.data.toList k).getD i15 0):=⟨_,rfl⟩
    obtain⟨a7,H7⟩:∃a,Hid (a=(aO blk.data.toList k).getD i7 0):=⟨_,rfl⟩
    obtain⟨a2,H2⟩:∃a,Hid (a=(aO blk.data.toList k).getD i2 0):=⟨_,rfl⟩
    have hw16:=hI.ws.cell (jV blk.data.toList k i16 (by omega));rw[←H16.out]at hw16
    have hw15:=hI.ws.cell (jV blk.data.toList k i15 (by omega));rw[←H15.out]at hw15
    have hw7:=hI.ws.cell (jV blk.data.toList k i7 (by omega));rw[←H7.out]at hw7
    have hw2:=hI.ws.cell (jV blk.data.toList k i2 (by omega));rw[←H2.out]at hw2
    have l16':fO a16:=⟨by rw[H16.out];exact fy _ _ _⟩
    have l15':fO a15:=⟨by rw[H15.out];exact fy _ _ _⟩
    have l7':fO a7:=⟨by rw[H7.out];exact fy _ _ _⟩
    have l2':fO a2:=⟨by rw[H2.out];exact fy _ _ _⟩
    obtain⟨y0,Hy0⟩:∃y,Hid (y=uV a15):=⟨_,rfl⟩
    obtain⟨y1,Hy1⟩:∃y,Hid (y=uW a2):=⟨_,rfl⟩
    have ly0:fO y0:=⟨by rw[Hy0.out];exact G4 a15 l15'.lt⟩
    have ly1:fO y1:=⟨by rw[Hy1.out];exact G5 a2 l2'.lt⟩
    have HI:=Lib.hid hI;clear hI
    have e16:IntKind.i64.wrap ((k:Int)-16)=i16:=by rw[IntWalk.i64_in _ (by omega)];omega
    have e15:IntKind.i64.wrap ((k:Int)-15)=i15:=by rw[IntWalk.i64_in _ (by omega)];omega
    have e7:IntKind.i64.wrap ((k:Int)-7)=i7:=by rw[IntWalk.i64_in _ (by omega)];omega
    have e2:IntKind.i64.wrap ((k:Int)-2)=i2:=by rw[IntWalk.i64_in _ (by omega)];omega
    have l16:(i16:Int)<64:=by omega
    have l15:(i15:Int)<64:=by omega
    have l7:(i7:Int)<64:=by omega
    have l2:(i2:Int)<64:=by omega
    have HE:=Lib.hid (And.intro h16' (And.intro h15' (And.intro h7' h2')))
    clear h16' h15' h7' h2'
    go_wp2_with fail
    refine cR (by kernel_rfl) (by kernel_rfl) ?_
    iterate 10 still_step
    refine wpStill_nil ?_
    go_wp2_with fail
    refine(fl a15 7 _ l15'.lt (by omega) (by omega)).mono ?_
    rintro e w' ⟨rfl,n1,rfl⟩
    go_wp2_with fail
    refine(fl a15 18 _ l15'.lt (by omega) (by omega)).mono ?_
    rintro e w' ⟨rfl,n2,rfl⟩
    go_wp2_with fail
    rw[EV _ l15'.lt,←Hy0.out]
    refine(fl a2 17 _ l2'.lt (by omega) (by omega)).mono ?_
    rintro e w' ⟨rfl,n3,rfl⟩
    go_wp2_with fail
    refine(fl a2 19 _ l2'.lt (by omega) (by omega)).mono ?_
    rintro e w' ⟨rfl,n4,rfl⟩
    go_wp2_with fail
    rw[EW _ l2'.lt,←Hy1.out]
    refine bH 16 (by kernel_rfl) (by kernel_rfl) ?_
    simp only[List.take_succ_cons,List.take_zero,List.drop_succ_cons,List.drop_zero]
    iterate 16 still_step
    refine wpStill_nil ?_
    clear e16 e15 e7 e2
    go_wp2_with fail
    go_roundw
    case rel=>
     refine⟨k+1,by omega,by go_num, ?_⟩
     have hE:=HE.out
     rw[DD _ _ _ _ l16'.lt ly0.lt l7'.lt ly1.lt]
     refine(HI.out.drewN _).next hlt ?_
     rw[oS _ _ h16,H16.out,Hy0.out,H15.out,H7.out,Hy1.out,H2.out,hE.1,hE.2.1,hE.2.2.1,hE.2.2.2]
    case measure=>simp[intOf];omega
  ·obtain rfl:k=64:=by omega
   rw[show((64:Nat):Int)=64 from rfl]
   obtain⟨ws,Hws⟩:∃ws,Hid (ws=aO blk.data.toList 64):=⟨_,rfl⟩
   have hlw:Hid (ws.length=64):=by show _= _;rw[Hws.out,bX]
   obtain⟨wo,rfl⟩:∃wo:World,wo=wr:=⟨_,rfl⟩
   have HI:=Lib.hid hI;clear hI
   go_wp2_with (first
    |((with_reducible refine ar 392 (.tmp 3) b3 s.rcells 392 _ HI.out.x Tryz.underlying392 rfl (gP s) ?hgd ?ho ?hx ?_);(case hgd|ho|hx=>rfl))
    |((with_reducible refine ai 392 S8.zero.rcells vN (some 13) ?hgd ?ho ?hd ?_);(case hgd|ho|hd=>rfl);(intro b13 w13 l13 B13 e13 z13))
    |((with_reducible refine af 392 (.tmp 13) (.tmp 85) b13 S8.zero.rcells s.rcells 392 B13 rfl (gP s) (S8.rcells_one _) ?hgd ?ho ?hx ?hy ?_);(case hgd|ho|hx|hy=>rfl);(intro w14 B14 o14)))
   have hJ:oi w s ws b3 b5 b6 b7 b13 (fW ws s 0) w14:=by
    have hI:=HI.out
    have hl:=hI.lo
    have hz:=hI.ws.lt
    refine⟨o14.blk (hI.x.below e13 (by omega)) (by omega),o14.blk (hI.ks.below e13 (by omega)) (by omega),o14.blk (hI.out.below e13 (by omega)) (by omega),o14.blk ((hI.ws.ext (by rw[xT,Hws.out])).below e13 (by omega)) (by omega),B14,o14.below (hI.bel.trans (e13.mono (by have:=hI.bel.size;omega))) (by have:=hI.bel.size;omega),by omega⟩
   clear HI B13 B14 o14 e13 z13 l13
   go_loopw [14] (fun i wr=>∃k:Nat,k≤64∧i= .int .i64 k∧oi w s ws b3 b5 b6 b7 b13 (fW ws s k) wr) (fun i _=>64-(intOf i).toNat)
   case atStart=>exact⟨0,by omega,rfl,hJ⟩
   case round=>
    clear hJ
    obtain⟨k,hk,rfl,hI⟩:=hrel
    by_cases hlt:k<64
    ·have hlt':(k:Int)<64:=by omega
     obtain⟨y,Hy⟩:∃y,Hid (y=fW ws s k):=⟨_,rfl⟩
     rw[←Hy.out]at hI
     have hy:y.ok:=by rw[Hy.out];exact qW ws hs k
     obtain⟨ya,yb,yc,yd,ye,yf,yg,yh⟩:=y
     obtain⟨a0,a1,a2,a3,a4,a5,a6,a7⟩:=hy
     have A0:fO ya:=⟨a0⟩
     have A1:fO yb:=⟨a1⟩
     have A2:fO yc:=⟨a2⟩
     have A3:fO yd:=⟨a3⟩
     have A4:fO ye:=⟨a4⟩
     have A5:fO yf:=⟨a5⟩
     have A6:fO yg:=⟨a6⟩
     have A7:fO yh:=⟨a7⟩
     clear a0 a1 a2 a3 a4 a5 a6 a7
     obtain⟨kk,Hkk⟩:∃kk,Hid (kk=bF.getD k 0):=⟨_,rfl⟩
     obtain⟨wk,Hwk⟩:∃wk,Hid (wk=ws.getD k 0):=⟨_,rfl⟩
     have lk:fO kk:=⟨by rw[Hkk.out];exact DF k⟩
     have lw:fO wk:=⟨by rw[Hwk.out,Hws.out];exact fy _ _ _⟩
     have c0:wr.cell? ⟨b13,0,none⟩=some (.int .i64 ya):=hI.y.cell rfl
     have c1:wr.cell? ⟨b13,1,none⟩=some (.int .i64 yb):=hI.y.cell rfl
     have c2:wr.cell? ⟨b13,2,none⟩=some (.int .i64 yc):=hI.y.cell rfl
     have c3:wr.cell? ⟨b13,3,none⟩=some (.int .i64 yd):=hI.y.cell rfl
     have c4:wr.cell? ⟨b13,4,none⟩=some (.int .i64 ye):=hI.y.cell rfl
     have c5:wr.cell? ⟨b13,5,none⟩=some (.int .i64 yf):=hI.y.cell rfl
     have c6:wr.cell? ⟨b13,6,none⟩=some (.int .i64 yg):=hI.y.cell rfl
     have c7:wr.cell? ⟨b13,7,none⟩=some (.int .i64 yh):=hI.y.cell rfl
     have ck:wr.cell? ⟨b5,k,none⟩=some (.int .i64 kk):=by rw[Hkk.out];exact hI.ks.cell (fp _ _ (by show k<64;exact hlt))
     have cw:wr.cell? ⟨b7,k,none⟩=some (.int .i64 wk):=by rw[Hwk.out];exact hI.ws.cell (fp _ _ (by rw[hlw.out];exact hlt))
     have HI:=Lib.hid hI;clear hI
     go_wp2_with fail
     refine cR (by kernel_rfl) (by kernel_rfl) ?_
     iterate 24 still_step
     refine wpStill_nil ?_
     have HI1:Hid (oi w s ws b3 b5 b6 b7 b13 ⟨ya,yb,yc,yd,ye,yf,yg,yh⟩ wr.drew):=HI.out.drewN 1
     have ck1:wr.drew.cell? ⟨b5,k,none⟩=some (.int .i64 kk):=ck
     have cw1:wr.drew.cell? ⟨b7,k,none⟩=some (.int .i64 wk):=cw
     clear c0 c1 c2 c3 c4 c5 c6 c7 ck cw HI
     revert HI1 ck1 cw1
     generalize wr.drew=w1
     intro HI1 ck1 cw1
     go_wp2_with fail
     go_quiet ((go_at_call 394;refine Calls.quiet_of (fl ye _ _ A4.lt (by omega) (by omega))))
     go_wp2_with fail
     obtain⟨t,Ht⟩:∃t,Hid (t=rH ⟨ya,yb,yc,yd,ye,yf,yg,yh⟩ kk wk):=⟨_,rfl⟩
     obtain⟨u,Hu⟩:∃u,Hid (u=uX ⟨ya,yb,yc,yd,ye,yf,yg,yh⟩):=⟨_,rfl⟩
     rw[IE ya yb yc yd ye yf yg yh kk wk A4.lt A5.lt A6.lt A7.lt lk.lt lw.lt,←Ht.out]
     refine(fl ya _ _ A0.lt (by omega) (by omega)).mono ?_
     rintro e w' ⟨rfl,n1,rfl⟩
     go_wp2_with fail
     refine(fl ya _ _ A0.lt (by omega) (by omega)).mono ?_
     rintro e w' ⟨rfl,n2,rfl⟩
     go_wp2_with fail
     refine(fl ya _ _ A0.lt (by omega) (by omega)).mono ?_
     rintro e w' ⟨rfl,n3,rfl⟩
     go_wp2_with ((with_reducible refine af 392 (.tmp 13) (.tmp 167) b13 (S8.rcells ⟨ya,yb,yc,yd,ye,yf,yg,yh⟩) ?cs 392 (HI1.out.drewN _).y ?hl ?hi ?h1 ?hgd ?ho ?hx ?hy ?_);(case hgd|ho|hx|hy|hl=>rfl);(case hi=>exact gP S8.zero);(case h1=>(intro v hv;simp only[List.mem_cons,List.not_mem_nil,or_false]at hv;rcases hv with rfl|rfl|rfl|rfl|rfl|rfl|rfl|rfl<;>rfl));(intro w13 B7n o13))
     go_roundw
     case rel=>
      have ht:=IG (k:=kk) (w:=wk) (s:=⟨ya,yb,yc,yd,ye,yf,yg,yh⟩) A4.lt A7.lt lk.lt lw.lt
      have hu:=IH (s:=⟨ya,yb,yc,yd,ye,yf,yg,yh⟩) A0.lt A1.lt
      have hd:=A3.lt
      rw[←Ht.out]at ht
      rw[←Hu.out]at hu
      rw[IF ya yb yc yd ye yf yg yh A0.lt A1.lt A2.lt,←Hu.out,pG _ _ ht hu,pG _ _ (by omega) ht]at B7n
      have eN:fW ws s (k+1)=uY ⟨ya,yb,yc,yd,ye,yf,yg,yh⟩ kk wk:=by
       rw[show fW ws s (k+1)=uY (fW ws s k) (bF.getD k 0) (ws.getD k 0)from rfl,←Hy.out,←Hkk.out,←Hwk.out]
      refine⟨k+1,by omega,by go_num, ?_⟩
      rw[eN]
      have hI:=HI1.out.drewN (nq+n1+n2+n3)
      refine⟨o13.blk hI.x ?_,o13.blk hI.ks ?_,o13.blk hI.out ?_,o13.blk hI.ws ?_,B7n.ext ?_,o13.below hI.bel ?_,hI.lo⟩
      all_goals have hlo:=hI.lo
      ·omega
      ·omega
      ·omega
      ·omega
      ·rw[Ht.out,Hu.out];rfl
      ·omega
     case measure=>simp[intOf];omega
    ·obtain rfl:k=64:=by omega
     obtain⟨y,Hy⟩:∃y,Hid (y=fW ws s 64):=⟨_,rfl⟩
     rw[←Hy.out]at hI
     have hyo:y.ok:=by rw[Hy.out];exact qW ws hs 64
     have hU:Fq w s b3 b6 b13 (mix y.l s.l 0) wr:=⟨hI.x,hI.out,hI.y,hI.bel,by have:=hI.lo;omega⟩
     clear hI
     obtain⟨wo,rfl⟩:∃wo:World,wo=wr:=⟨_,rfl⟩
     have HU:=Lib.hid hU;clear hU
     rw[show((64:Nat):Int)=64 from rfl]
     go_wp2_with fail
     go_loopw [25] (fun i wr=>∃k:Nat,k≤8∧i= .int .i64 k∧Fq w s b3 b6 b13 (mix y.l s.l k) wr) (fun i _=>8-(intOf i).toNat)
     case atStart=>exact⟨0,by omega,rfl,HU.out⟩
     case round=>
      obtain⟨k,hk,rfl,hI⟩:=hrel
      clear HU
      by_cases hlt:k<8
      ·have hlt':(k:Int)<8:=by omega
       obtain⟨yk,Hyk⟩:∃a,Hid (a=y.l.getD k 0):=⟨_,rfl⟩
       obtain⟨xk,Hxk⟩:∃a,Hid (a=s.l.getD k 0):=⟨_,rfl⟩
       have ly:fO yk:=⟨by rw[Hyk.out];exact S8.l_lt hyo k⟩
       have lx:fO xk:=⟨by rw[Hxk.out];exact S8.l_lt hs k⟩
       have cy:wr.cell? ⟨b13,k,none⟩=some (.int .i64 yk):=by
        rw[hI.y.cell (fp _ _ (by rw[cK];exact hlt)),jz _ _ _ _ hlt,if_neg (by omega),←Hyk.out]
       have cx:wr.cell? ⟨b3,k,none⟩=some (.int .i64 xk):=by
        rw[hI.x.cell (fp _ _ (by exact hlt)),←Hxk.out]
       have cf:=hI.y.free k
       have HI:=Lib.hid hI;clear hI
       go_wp2_with fail
       refine bH 10 (by kernel_rfl) (by kernel_rfl) ?_
       simp only[List.take_succ_cons,List.take_zero,List.drop_succ_cons,List.drop_zero]
       iterate 10 still_step
       refine wpStill_nil ?_
       go_wp2_with fail
       go_roundw
       case rel=>
        have hI:=HI.out
        refine⟨k+1,by omega,by go_num, ?_⟩
        rw[pG _ _ (by have:=ly.lt;omega) (by have:=lx.lt;omega)]
        refine⟨(hI.x.drewN 1).set_other (by have:=hI.lo;show b3≠b13;omega) _,(hI.out.drewN 1).set_other (by have:=hI.lo;show b6≠b13;omega) _, ?_,(Below.drewN hI.bel 1).setCell (by have:=hI.lo;show w.heap.size≤b13;omega) _,hI.lo⟩
        refine((hI.y.drewN 1).set k _).ext ?_
        rw[←EZ _ _ _ hlt,←Hyk.out,←Hxk.out]
       case measure=>simp[intOf];omega
      ·obtain rfl:k=8:=by omega
       have HI:=Lib.hid hI;clear hI
       obtain⟨r,Hr⟩:∃r,Hid (r=y.add s):=⟨_,rfl⟩
       have ey:Hid (bz (mix y.l s.l 8)=r.rcells):=by show _= _;rw[EY,Hr.out]
       have er:Hid (r=qb s blk.data.toList):=by show _= _;rw[Hr.out,Hy.out,Hws.out];rfl
       go_wp2_with (first
        |((with_reducible refine ar 392 (.tmp 13) b13 r.rcells 392 _ (HI.out.y.ext ey.out) Tryz.underlying392 rfl (gP r) ?hgd ?ho ?hx ?_);(case hgd|ho|hx=>rfl))
        |((with_reducible refine af 392 (.tmp 6) (.tmp 182) b6 S8.zero.rcells r.rcells 392 HI.out.out rfl (gP r) (S8.rcells_one _) ?hgd ?ho ?hx ?hy ?_);(case hgd|ho|hx|hy=>rfl);(intro w12 B4w o12))
        |((with_reducible refine bodyPost_ret (v:=r.rval) ?hr ?hd ?hR)
          (case hd=>rfl)
          (case hR=>exact⟨by rw[er.out],o12.below HI.out.bel (by have:=HI.out.lo;omega)⟩)
          (case hr=>exact results_cell_row rfl _ _ b6 _ _ _ _ rfl B4w Tryz.underlying392 rfl (gP r))))
theorem kE {P:Program} {ops:Array Oper} {rest:List Oper} {o:Oper} {a:Act} {w:World} {Q:Act→Prop}
  (ty:TypeId) (x:Operand) (b:Nat) (cs:List Value) (t:TypeId) (d:TypeDesc) (hb:ab w b cs t)
  (hu:P.underlying ty=some d) (hd:d.isRow=true) (hi:(P.info? ty).map (·.size)=some cs.length)
  (hgd:o.guard=none) (ho:o.op= .load ty x) (hx:a.eval x= .pointer (some ⟨b,0,none⟩))
  (h:wpStill P ops w Q rest (a.put o.dst (.agg cs.toArray))):wpStill P ops w Q (o::rest) a:=by
 refine wpStill_step (fun K hK=> ?_)
 have hw:Region.wanted o (yielded ops a.tmps)=true:=by simp[Region.wanted,hgd]
 rw[if_pos hw]
 unfold Oper.still
 have e:(execOp a.eval o).run P w= .ok (.value (.agg cs.toArray)) w:=by
  unfold execOp
  simp only[ho,hx,Instr.loadAt,Instr.sureAddr,Sem.run_bind,Sem.run_pure,Result.andThen_ok,run_loadVar_mid w b 0 ty cs d hb.range hu hd hi]
 rw[e,Oper.stillUpon_value]
 exact hK _ h
theorem rY (n k:Nat) (h:k≤63-(n+8) % 64):((n:Int)+(1+(k:Int))) % 64=56↔k=63-(n+8) % 64:=by omega
theorem DG (n:Nat) (w:World) (hn:n≤1073741824):
  Calls Tryz.prog 351 #[.int .i64 n] w fun e w'=>∃r,e= .returned (.string r)∧aj r (iF n)∧Below w.heap.size w w':=by
 have e1:(n:Int)≤1073741824:=by omega
 obtain⟨m,Hm⟩:∃m,Hid (m=63-(n+8) % 64):=⟨_,rfl⟩
 have hm:m≤63:=by have:=Hm.out;omega
 obtain⟨p,hp,tp⟩:∃q,str [128]=Value.string q∧aj q [128]:=⟨_,rfl,aj.mk _⟩
 have HP:=Lib.hid hp;clear hp
 go_enter Tryz.func351,Tryz.ntmps351
 go_wp2_with (first
  |((with_reducible refine aS 205 5 1 ?parts [.int .u8 128] (.int .u8 0) 1 1 (some 6) Tryz.underlying205 infoByte (by omega) (by omega) ?hgd ?ho ?hd ?hf ?_);(case hgd|ho|hd=>rfl);(case hf=>kernel_rfl);(intro g w1 l1 B1 e1' z1);(have HB1:Hid (ab w1 g (bytesV [128]) 5):=B1.ext rfl);(clear B1))
  |((with_reducible refine bU 205 9 5 (.tmp 6) [128] g 0 1 1 (some 7) Tryz.underlying205 Tryz.underlying5 Tryz.underlying9 HB1.out.range (List.length_singleton (a:=(128:UInt8))).symm ?hgd ?ho ?hd ?hx ?_);(case hgd|ho|hd|hx=>rfl);(rw[HP.out])))
 have hbel0:=e1'.mono l1
 clear HB1 e1' l1 z1
 go_loopw [3] (fun v wr=>∃(k:Nat) (r:ByteArray),k≤m∧v= .string r∧aj r ([128]++List.replicate k 0)∧Below w.heap.size w wr) (fun v _=>64-qB v)
 case atStart=>exact⟨0,p,by omega,rfl,tp.cast (by simp),hbel0⟩
 case round=>
  clear hbel0 tp
  obtain⟨k,r,hk,rfl,tr,hbel⟩:=hrel
  have hr:(r.size:Int)=1+(k:Int):=by rw[tr.size];simp;omega
  have hr':r.size=1+k:=by omega
  have HR:=Lib.hid hr';clear hr'
  by_cases hlt:k<m
  ·have hne:¬((n:Int)+(1+(k:Int))) % 64=56:=by
    have:=Hm.out
    rw[rY n k (by omega)];omega
   go_wp2_with fail
   refine(gd 1 _ (by omega) (by omega)).mono ?_
   rintro e w2 ⟨q,rfl,tq,hb2⟩
   have hq:q.size=1:=by rw[tq.size];rfl
   have hk63:(k:Int)≤63:=by omega
   go_wp2_with fail
   go_roundw
   case rel=>
    have y:=hbel.size
    refine⟨k+1,_,by omega,rfl,(tr.append tq).cast ?_,hbel.trans (hb2.mono y)⟩
    rw[List.append_assoc,show(1:Int).toNat=1 from rfl,List.replicate_append_replicate]
   case measure=>
    have:=HR.out
    simp[qB]
    omega
  ·obtain rfl:k=m:=by omega
   have hne:((n:Int)+(1+(k:Int))) % 64=56:=by
    have:=Hm.out
    rw[rY n k (by omega)];omega
   obtain⟨q,Hq⟩:∃q,Hid (q=8*n):=⟨_,rfl⟩
   have e8:(8:Int)*(n:Int)=(q:Int):=by have:=Hq.out;omega
   have hq:q≤8589934592:=by have:=Hq.out;omega
   have hk63:(k:Int)≤63:=by omega
   go_wp2_with fail
   refine(ge q 8 _ (by omega)).mono ?_
   rintro e w2 ⟨he,hb2⟩
   obtain⟨t,rfl,tt⟩:=he.yes ⟨by omega,by omega,by omega,by show q<256^8;omega⟩
   clear he
   have ht:t.size=8:=by rw[tt.size,beBytes_length];rfl
   go_wp2_with fail
   go_ret
   refine⟨_,rfl,(tr.append tt).cast ?_,hbel.trans (hb2.mono hbel.size)⟩
   rw[yE,←Hm.out,←Hq.out];rfl
theorem kZ (s:ByteArray) (w:World) (hs:s.size≤1073741824):
  Calls Tryz.prog 277 #[.string s] w fun e w'=>∃r,e= .returned (.string r)∧aj r (dm s.data.toList)∧Below w.heap.size w w':=by
 have hl64:Hid ((bz bF).length=64):=by show _= _;rfl
 have hlz:Hid ((iw 64).length=64):=by show _= _;simp[iw]
 go_enter Tryz.func277,Tryz.ntmps277
 go_wp2_with fail
 refine(DG s.size _ hs).mono ?_
 rintro e w1 ⟨p,rfl,tp,hb1⟩
 have hp:p.size≤72:=by rw[tp.size,lu];omega
 go_wp2_with fail
 obtain⟨all,hall⟩:∃a,a=s++p:=⟨_,rfl⟩
 obtain⟨L,HL⟩:∃L,Hid (L=s.data.toList++iF s.size):=⟨_,rfl⟩
 obtain⟨N,HN⟩:∃N,Hid (N=L.length/64):=⟨_,rfl⟩
 have tL:aj all L:=by rw[hall,HL.out];exact(aj.self s).append tp
 have hz:all.size=64*N:=by
  rw[tL.size,HN.out,HL.out,List.length_append,lu,show s.data.toList.length=s.size from rfl];omega
 have hz2:all.size≤1073741896:=by rw[hall,ByteArray.size_append];omega
 rw[←hall]
 clear hall tp hp
 have HZ:=Lib.hid hz;clear hz
 refine(xP _).mono ?_
 rintro e w2 ⟨rfl,hb2⟩
 go_wp2_with fail
 refine(vO _).mono ?_
 rintro e w3 ⟨rfl,hb3⟩
 go_wp2_with (first
  |((with_reducible refine ai 392 S8.zero.rcells vN (some 4) ?hgd ?ho ?hd ?_);(case hgd|ho|hd=>rfl);(intro b4 w4 l4 B4 e4 z4))
  |((with_reducible refine ai 394 (iw 64) yI (some 5) ?hgd ?ho ?hd ?_);(case hgd|ho|hd=>rfl);(intro b5 w5 l5 B5 e5 z5);(have B4':=B4.below e5 (by omega)))
  |((with_reducible refine af 392 (.tmp 4) (.tmp 12) b4 S8.zero.rcells S8.first.rcells 392 B4' rfl (gP S8.first) (S8.rcells_one _) ?hgd ?ho ?hx ?hy ?_);(case hgd|ho|hx|hy=>rfl);(intro w6 B4w o6);(have B5':=o6.blk B5 (by omega)))
  |((with_reducible refine af 394 (.tmp 5) (.tmp 13) b5 (iw 64) (bz bF) 394 B5' (hl64.out.trans hlz.out.symm) (yJ.trans (congrArg some hl64.out.symm)) (mM _) ?hgd ?ho ?hx ?hy ?_);(case hgd|ho|hx|hy=>rfl);(intro w7 B5w o7)))
 have q1:=hb1.size
 have q2:=hb2.size
 have q3:=hb3.size
 have q6:=o6.size
 have B4f:Hid (ab w7 b4 (S8.rcells (blocks 0 S8.first L)) 392):=o7.blk B4w (by omega)
 have B5f:Hid (ab w7 b5 (bz bF) 394):=B5w
 have hbel:Hid (Below w.heap.size w w7):=o7.below (o6.below ((((hb1.trans (hb2.mono (by omega))).trans (hb3.mono (by omega))).trans (e4.mono (by omega))).trans (e5.mono (by omega))) (by omega)) (by omega)
 have hlo:w.heap.size≤b4∧b4<b5:=by omega
 clear B4 B5 B4' B5' B4w B5w o6 o7 e4 e5 hb1 hb2 hb3 q1 q2 q3 q6 l4 l5 z4 z5
 go_loopw [6] (fun i wr=>∃k t:Nat,k≤N∧i= .int .i64 t∧t=64*k∧ab wr b4 (S8.rcells (blocks k S8.first L)) 392∧ab wr b5 (bz bF) 394∧Below w.heap.size w wr) (fun i _=>all.size-(intOf i).toNat)
 case atStart=>exact⟨0,0,by omega,rfl,rfl,B4f.out,B5f.out,hbel.out⟩
 case round=>
  clear B4f B5f hbel
  obtain⟨k,t,hk,rfl,ht,h4,h5,hbel⟩:=hrel
  obtain⟨st,Hst⟩:∃st,Hid (st=blocks k S8.first L):=⟨_,rfl⟩
  rw[←Hst.out]at h4
  have hok:st.ok:=by rw[Hst.out];exact nj k S8.first_ok L
  have HO:=Lib.hid hok;clear hok
  have HT:=Lib.hid ht;clear ht
  have H4:=Lib.hid h4;clear h4
  have H5:=Lib.hid h5;clear h5
  by_cases hlt:k<N
  ·have hlt':(t:Int)<all.size:=by have:=HT.out;have:=HZ.out;omega
   have hle:(t:Int)+64≤all.size:=by have:=HT.out;have:=HZ.out;omega
   have hle2:(t:Int)≤(t:Int)+64:=by omega
   have hle3:(0:Int)≤(t:Int)+64:=by omega
   have ew:IntKind.i64.wrap ((t:Int)+64)=(t:Int)+64:=IntWalk.i64_in _ (by omega)
   go_wp2_with fail
   refine bH 7 (by kernel_rfl) (by kernel_rfl) ?_
   simp only[List.take_succ_cons,List.take_zero,List.drop_succ_cons,List.drop_zero]
   refine kE 392 (.tmp 4) b4 st.rcells _ _ (H4.out.drewN 1) Tryz.underlying392 rfl (gP st) rfl rfl rfl ?_
   iterate 5 still_step
   refine kE 394 (.tmp 5) b5 (bz bF) _ _ (H5.out.drewN 1) Tryz.underlying394 rfl (yJ.trans (congrArg some hl64.out.symm)) rfl rfl rfl ?_
   refine wpStill_nil ?_
   go_wp2_with fail
   refine(Aw st HO.out _ _ (by simp;omega)).mono ?_
   rintro e w8 ⟨rfl,hb8⟩
   obtain⟨x,Hx⟩:∃x,Hid (x=qb st (all.extract t (t+64)).data.toList):=⟨_,rfl⟩
   rw[←Hx.out]
   have B8:=Lib.hid ((H4.out.drewN 1).below hb8 (H4.out.drewN 1).lt)
   have B9:=Lib.hid ((H5.out.drewN 1).below hb8 (H5.out.drewN 1).lt)
   have hbel8:=Lib.hid ((Below.drewN hbel 1).trans (hb8.mono (Below.drewN hbel 1).size))
   clear hb8
   go_wp2_with ((with_reducible refine af 392 (.tmp 4) (.tmp 27) b4 st.rcells x.rcells 392 B8.out rfl (gP x) (S8.rcells_one _) ?hgd ?ho ?hx ?hy ?_);(case hgd|ho|hx|hy=>rfl);(intro w9 B4n o9))
   go_roundw
   case rel=>
    refine⟨k+1,t+64,by omega,by simp,by have:=HT.out;omega,B4n.ext ?_,o9.blk B9.out (by omega),o9.below hbel8.out (by omega)⟩
    rw[oW,←Hst.out,Hx.out,tL.extract t (t+64),List.drop_take,←HT.out,show t+64-t=64 by omega]
   case measure=>simp[intOf];omega
  ·obtain rfl:k=N:=by omega
   have hge:(all.size:Int)≤t:=by have:=HT.out;have:=HZ.out;omega
   go_wp2_with ((with_reducible refine ar 392 (.tmp 4) b4 st.rcells 392 _ H4.out Tryz.underlying392 rfl (gP st) ?hgd ?ho ?hx ?_);(case hgd|ho|hx=>rfl))
   refine(Av st HO.out _).mono ?_
   rintro e w8 ⟨r,rfl,tr,hb8⟩
   go_wp2_with fail
   go_ret
   refine⟨r,rfl,tr.cast ?_,hbel.trans (hb8.mono hbel.size)⟩
   rw[Hst.out,HN.out,HL.out];rfl
theorem DI (k:ByteArray) (w:World) (hk:k.size≤16777216):
  Calls Tryz.prog 404 #[.string k] w fun e w'=>∃r,e= .returned (.string r)∧aj r (eK k.data.toList)∧Below w.heap.size w w':=by
 by_cases c1:64<k.size
 ·have d1:(64:Int)<k.size:=by omega
  go_enter Tryz.func404,Tryz.ntmps404
  go_wp2_with fail
  refine(kZ k _ (by omega)).mono ?_
  rintro e w1 ⟨q,rfl,tq,hb1⟩
  have hq:q.size=32:=by rw[tq.size,bK]
  go_wp2_with fail
  refine(gd _ _ (by omega) (by omega)).mono ?_
  rintro e w2 ⟨z,rfl,tz,hb2⟩
  have hz:z.size=32:=by rw[tz.size];rfl
  go_wp2_with fail
  go_ret
  refine⟨_,rfl,(tq.append tz).cast ?_,hb1.trans (hb2.mono hb1.size)⟩
  unfold eK;rw[if_pos (show 64<k.data.toList.length from c1)];rfl
 ·have d1:(k.size:Int)≤64:=by omega
  obtain⟨m,Hm⟩:∃m,Hid (m=64-k.size):=⟨_,rfl⟩
  have em:(64:Int)-k.size=(m:Int):=by have:=Hm.out;omega
  have hm:m≤64:=by have:=Hm.out;omega
  go_enter Tryz.func404,Tryz.ntmps404
  go_wp2_with fail
  refine(gd m _ (by omega) (by omega)).mono ?_
  rintro e w2 ⟨z,rfl,tz,hb2⟩
  have hz:z.size≤64:=by rw[tz.size];simpa using hm
  go_wp2_with fail
  go_ret
  refine⟨_,rfl,((aj.self k).append tz).cast ?_,hb2⟩
  unfold eK;rw[if_neg (show¬64<k.data.toList.length from c1),Hm.out];rfl
theorem qD (k:ByteArray) (n:Int) (x:UInt8) (w:World) (hk:k.size≤16777216) (hn:n=((x.toNat:Nat):Int)):
  Calls Tryz.prog 373 #[.string k, .int .i64 n] w fun e w'=>∃r,e= .returned (.string r)∧aj r (jo k.data.toList x)∧Below w.heap.size w w':=by
 have HN:=Lib.hid hn;clear hn
 go_enter Tryz.func373,Tryz.ntmps373
 go_wp2_with fail
 refine(DI k _ hk).mono ?_
 rintro e w1 ⟨q,rfl,tq,hb1⟩
 have hq:(q.size:Int)=64:=by rw[tq.size,eW];rfl
 have hq2:q.size=64:=by rw[tq.size,eW]
 go_wp2_with fail
 go_loopw [6,7] (fun v i wr=>∃(j:Nat) (r:ByteArray),j≤64∧i= .int .i64 j∧v= .string r∧aj r ((eK k.data.toList).take j|>.map fun c=>c^^^x)∧Below w.heap.size w wr) (fun v i _=>64-(intOf i).toNat)
 case atStart=>exact⟨0,⟨#[]⟩,by omega,rfl,rfl,(aj.mk []).cast (by simp),hb1⟩
 case round=>
  clear hb1
  obtain⟨j,r,hj,rfl,rfl,tr,hbel⟩:=hrel
  have hr:r.size≤64:=by rw[tr.size,List.length_map,List.length_take];omega
  by_cases hlt:j<64
  ·have hlt':(j:Int)<64:=by omega
   have hjq:j<q.size:=by omega
   obtain⟨c,Hc⟩:∃c:UInt8,Hid (c=q[j]^^^x):=⟨q[j]^^^x,Lib.hid rfl⟩
   obtain⟨p,hp,tp⟩:∃p,str [c]=Value.string p∧aj p [c]:=⟨_,rfl,aj.mk _⟩
   have HP:=Lib.hid hp;clear hp
   have sp:p.size≤1:=by rw[tp.size];simp
   have hbj:=q[j].toNat_lt
   have ec:bits BinOp.xor IntKind.i64 ((q[j].toNat:Nat):Int) n % 256=((c.toNat:Nat):Int):=by
    have h1:=x.toNat_lt
    have h2:q[j].toNat^^^x.toNat<256:=Nat.xor_lt_two_pow (n:=8) hbj h1
    rw[HN.out,dQ _ _ (by omega) (by omega),Hc.out,UInt8.toNat_xor]
    omega
   have EC:=Lib.hid ec;clear ec
   go_wp2_with (first
    |((with_reducible refine aS 205 5 1 ?parts [.int .u8 (bits BinOp.xor IntKind.i64 ((q[j].toNat:Nat):Int) n % 256)] (.int .u8 0) 1 1 (some 24) Tryz.underlying205 infoByte (by omega) (by omega) ?hgd ?ho ?hd ?hf ?_);(case hgd|ho|hd=>rfl);(case hf=>kernel_rfl);(intro g w2 l2 B2 e2 z2);(have HB2:Hid (ab w2 g (bytesV [c]) 5):=B2.ext (by rw[EC.out];rfl));(clear B2))
    |((with_reducible refine bU 205 9 5 (.tmp 24) [c] g 0 1 1 (some 25) Tryz.underlying205 Tryz.underlying5 Tryz.underlying9 HB2.out.range (List.length_singleton (a:=c)).symm ?hgd ?ho ?hd ?hx ?_);(case hgd|ho|hd|hx=>rfl);(rw[HP.out])))
   go_roundw
   case rel=>
    have y:=hbel.size
    refine⟨j+1,_,by omega,by go_num,rfl, ?_,hbel.trans (e2.mono (by omega))⟩
    refine(tr.append tp).cast ?_
    have hl:j<(eK k.data.toList).length:=by rw[eW];exact hlt
    rw[List.take_succ_eq_append_getElem hl,List.map_append,Hc.out]
    have eq:(eK k.data.toList)[j]=q[j]:=by
     have:=jy q j hjq
     rw[show q.data.toList= _ from tq]at this
     rw[←this,List.getD_eq_getElem?_getD,List.getElem?_eq_getElem hl];rfl
    rw[←eq];rfl
   case measure=>simp[intOf];omega
  ·obtain rfl:j=64:=by omega
   go_wp2_with fail
   go_ret
   refine⟨r,rfl,tr.cast ?_,hbel⟩
   rw[List.take_of_length_le (by rw[eW];exact Nat.le_refl _)];rfl
theorem xU (k m:ByteArray) (w:World) (hk:k.size≤16777216) (hm:m.size≤16777216):
  Calls Tryz.prog 374 #[.string k, .string m] w fun e w'=>∃r,e= .returned (.string r)∧aj r (qf k.data.toList m.data.toList)∧Below w.heap.size w w':=by
 go_enter Tryz.func374,Tryz.ntmps374
 go_wp2_with fail
 refine(qD k 54 54 _ hk rfl).mono ?_
 rintro e w1 ⟨q,rfl,tq,hb1⟩
 have hq:q.size=64:=by rw[tq.size,eE]
 go_wp2_with fail
 go_ret
 exact⟨_,rfl,tq.append (aj.self m),hb1⟩
theorem xW (k m:ByteArray) (w:World) (hk:k.size≤16777216) (hm:m.size≤16777216):
  Calls Tryz.prog 304 #[.string k, .string m] w fun e w'=>∃r,e= .returned (.string r)∧aj r (nm k.data.toList m.data.toList)∧Below w.heap.size w w':=by
 go_enter Tryz.func304,Tryz.ntmps304
 go_wp2_with fail
 refine(qD k 92 92 _ hk rfl).mono ?_
 rintro e w1 ⟨q,rfl,tq,hb1⟩
 have hq:q.size=64:=by rw[tq.size,eE]
 go_wp2_with fail
 refine(xU k m _ hk hm).mono ?_
 rintro e w2 ⟨i,rfl,ti,hb2⟩
 have hi:i.size≤16777280:=by rw[ti.size,sH,show m.data.toList.length=m.size from rfl];omega
 go_wp2_with fail
 refine(kZ i _ (by omega)).mono ?_
 rintro e w3 ⟨h,rfl,th,hb3⟩
 have hh:h.size=32:=by rw[th.size,bK]
 go_wp2_with fail
 go_ret
 have y1:=hb1.size
 have y2:=hb2.size
 exact⟨_,rfl,tq.append (th.cast (by rw[ti])),(hb1.trans (hb2.mono (by omega))).trans (hb3.mono (by omega))⟩
theorem rZ (k m:ByteArray) (w:World) (hk:k.size≤16777216) (hm:m.size≤16777216):
  Calls Tryz.prog 200 #[.string k, .string m] w fun e w'=>∃r,e= .returned (.string r)∧aj r (nn k.data.toList m.data.toList)∧Below w.heap.size w w':=by
 go_enter Tryz.func200,Tryz.ntmps200
 go_wp2_with fail
 refine(xW k m _ hk hm).mono ?_
 rintro e w1 ⟨q,rfl,tq,hb1⟩
 have hq:q.size=96:=by rw[tq.size,mQ]
 go_wp2_with fail
 refine(kZ q _ (by omega)).mono ?_
 rintro e w2 ⟨h,rfl,th,hb2⟩
 go_wp2_with fail
 go_ret
 exact⟨_,rfl,th.cast (by rw[tq];rfl),hb1.trans (hb2.mono hb1.size)⟩
end Go.Proofs.YtgimkmclgjfddaaGreat
