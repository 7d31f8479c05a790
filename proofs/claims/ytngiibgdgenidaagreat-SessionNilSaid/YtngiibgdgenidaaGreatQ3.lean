/- Walks of package octet. Walks of the small functions of package sha: turning a number, reading one, the constants. Walk of sha.words: a block's sixty-four words. Walks of sha.constants and of the method turned: what a block does to the state. -/
import Derived.Test.YtngiibgdgenidaaGreatProg
import Derived.Test.YtngiibgdgenidaaGreatQ2
import Derived.ProofKit
import Derived.Handy
import Derived.Deep.QuietTactic
import Derived.BigQuiet
import Derived.Lib.Hide
import Derived.Outline
import Derived.StillTailTactics
import Derived.Deep.WholeRow
import Derived.Deep.RegionWith
import Derived.Deep.RegionHeld3
import Derived.Deep.RegionLaw
set_option linter.unusedSimpArgs false
set_option linter.unusedVariables false
set_option maxRecDepth 100000
set_option maxHeartbeats 4000000
namespace Go.Proofs.YtngiibgdgenidaaGreat
open Go Go.RowKit
theorem infoByte:(Tryz.prog.info? 5).map (fun i=>(i.zero,i.size,i.bytes))=some (some (.int .u8 0),1,1):=by kernel_rfl
theorem tB (k n:Nat):beBytes (k+1) n=UInt8.ofNat (n/256^k % 256)::beBytes k n:=by
 induction k generalizing n with
 |zero=>simp[beBytes]
 |succ k ih=>
  rw[show beBytes (k+1+1) n=beBytes (k+1) (n/256)++[UInt8.ofNat (n % 256)]from rfl,ih]
  simp only[List.cons_append,Nat.div_div_eq_div_mul]
  rw[show 256*256^k=256^(k+1) by rw[Nat.pow_succ];omega]
  rfl
def jw (n wd k:Nat):List UInt8:=List.replicate (wd-k) 0++beBytes k n
theorem ny (n wd k:Nat) (h:k≤wd):(jw n wd k).length=wd:=by simp[jw,beBytes_length];omega
theorem Cf (n wd k:Nat) (h:k<wd):(jw n wd k).set (wd-1-k) (UInt8.ofNat (n/256^k % 256))=jw n wd (k+1):=by
 unfold jw
 rw[show List.replicate (wd-k) (0:UInt8)=List.replicate (wd-(k+1)) 0++[0] by rw[←List.replicate_succ'];congr 1;omega]
 rw[List.append_assoc,List.set_append_right _ _ (by simp;omega),tB]
 simp[show wd-1-k-(wd-(k+1))=0 by omega]
theorem xN (n wd:Nat) (h2:wd≤8) (hn:n<9223372036854775808) (hf:wd<8→n<256^wd):(n:Int)/2^(8*wd)≤0:=by
 have h:n<2^(8*wd):=by
  by_cases h8:wd<8
  ·have:=hf h8
   rwa[show(256:Nat)=2^8 from rfl,←Nat.pow_mul]at this
  ·obtain rfl:wd=8:=by omega
   exact Nat.lt_of_lt_of_le hn (by decide)
 have:n/2^(8*wd)=0:=Nat.div_eq_of_lt h
 have e:(n:Int)/2^(8*wd)=((n/2^(8*wd):Nat):Int):=by simp
 rw[e,this];exact Int.le_refl _
theorem Es (n k:Nat):(n:Int)/2^(8*k) % 256=(((UInt8.ofNat (n/256^k % 256)).toNat:Nat):Int):=by
 have e:(n:Int)/2^(8*k) % 256=((n/2^(8*k) % 256:Nat):Int):=by simp
 rw[e,Nat.pow_mul]
 simp
theorem F7 (n wd:Nat) (w:World) (h1:1≤wd) (h2:wd≤8) (hn:n<9223372036854775808) (hf:wd<8→n<256^wd):
  Calls Tryz.prog 227 #[.int .i64 n, .int .i64 wd] w fun e w'=>e= .returned (.tuple #[str (beBytes wd n), .int .i64 0])∧Below w.heap.size w w':=by
 have e1:(1:Int)≤wd:=by omega
 have e2:(wd:Int)≤8:=by omega
 have e3:(n:Int)≤9223372036854775807:=by omega
 have hq:=xN n wd h2 hn hf
 clear hf hn
 by_cases h8:(wd:Int)<8
 all_goals
  go_enter Tryz.func227,Tryz.ntmps227
  go_wp2_with (first
   |((with_reducible refine ol 217 5 (.tmp 29) (.tmp 29) wd (some 30) (wd:Int) Tryz.underlying217 infoByte (by omega) rfl ?hgd ?ho ?hd ?hx ?hy ?_);(case hgd|ho|hd|hx|hy=>rfl);(intro g w1 l1 B1 e1' z1)))
  have HB:=Lib.hid B1;clear B1
  go_loopw [32] (fun i wr=>∃k:Nat,k≤wd∧i= .int .i64 k∧ac wr g (bytesV (jw n wd k)) 5∧Below w.heap.size w wr) (fun i _=>wd-(intOf i).toNat)
  case atStart=>exact⟨0,by omega,rfl,HB.out.ext (by simp[jw,beBytes]),e1'.mono l1⟩
  case round=>
   clear HB e1' z1
   obtain⟨k,hk,rfl,hblk,hbel⟩:=hrel
   by_cases hlt:k<wd
   ·have hlt':(k:Int)<wd:=by omega
    have hck:=hblk.cell (iD _ (wd-1-k) (by rw[ny _ _ _ hk];omega))
    have hcf:=hblk.free (wd-1-k)
    have HB:=Lib.hid hblk;clear hblk
    go_wp2_with fail
    go_roundw
    case rel=>
     refine⟨k+1,by omega,by go_num, ?_,hbel.setCell (by show w.heap.size≤g;omega) _⟩
     refine(HB.out.set _ _).ext ?_
     rw[←Cf _ _ _ hlt,←fQ]
     congr 2
     exact Es n k
    case measure=>simp[intOf];omega
   ·obtain rfl:k=wd:=by omega
    have HB:=Lib.hid hblk;clear hblk
    go_wp2_with (first
     |((with_reducible refine eS 217 9 5 (.tmp 47) (jw n k k) g 0 k k (some 48) Tryz.underlying217 Tryz.underlying5 Tryz.underlying9 HB.out.range (by rw[ny _ _ _ (Nat.le_refl _)]) ?hgd ?ho ?hd ?hx ?_);(case hgd|ho|hd|hx=>rfl)))
    go_ret2
    refine⟨?_,hbel⟩
    have ef:jw n k k=beBytes k n:=by simp[jw]
    rw[←ef]
    rfl
theorem mC (n wd:Nat) (w:World) (h1:1≤wd) (h2:wd≤8) (hn:n<9223372036854775808) (hf:wd<8→n<256^wd):
  Calls Tryz.prog 227 #[.int .i64 n, .int .i64 wd] w fun e w'=>∃r,e= .returned (.tuple #[.string r, .int .i64 0])∧ak r (beBytes wd n)∧Below w.heap.size w w':=
 (F7 n wd w h1 h2 hn hf).mono fun _ _ ⟨a,b⟩=>⟨_,a,ak.mk _,b⟩
def S8.val (s:S8):Value:=
 .agg #[.int .u32 s.a, .int .u32 s.b, .int .u32 s.c, .int .u32 s.d, .int .u32 s.e, .int .u32 s.f, .int .u32 s.g, .int .u32 s.h]
theorem Et (x k:Nat) (hx:x<4294967296) (h0:0<k) (h1:k<32):
  bits BinOp.or IntKind.u32 ((x:Int)*2^(32-k) % 4294967296) ((x:Int)/2^k)=((dq x k:Nat):Int):=by
 have e1:(x:Int)*2^(32-k) % 4294967296=((x*2^(32-k) % 4294967296:Nat):Int):=by simp
 have e2:(x:Int)/2^k=((x/2^k:Nat):Int):=by simp
 have l1:x*2^(32-k) % 4294967296<4294967296:=Nat.mod_lt _ (by decide)
 have l2:x/2^k<4294967296:=Nat.lt_of_le_of_lt (Nat.div_le_self _ _) hx
 rw[e1,e2,u32_or_nat _ _ l1 l2]
 unfold dq
 rw[Nat.shiftRight_eq_div_pow,Nat.shiftLeft_eq]
 congr 1
 apply Nat.eq_of_testBit_eq
 intro i
 rw[show(4294967296:Nat)=2^32 from rfl,Nat.testBit_or,Nat.testBit_mod_two_pow,Nat.testBit_mod_two_pow,Nat.testBit_or]
 by_cases hi:i<32
 ·simp[hi,Bool.or_comm]
 ·have:(x/2^k).testBit i=false:=
   Nat.testBit_lt_two_pow (Nat.lt_of_lt_of_le l2 (Nat.pow_le_pow_right (n:=2) (by omega) (by omega:32≤i)))
  simp[hi,this]
theorem Ci (k:Int) (h0:0<k) (h1:k<32):bits BinOp.and IntKind.u64 (IntKind.u64.wrap (-k)) 31=32-k:=by
 have hw:IntKind.u64.wrap (-k)=((18446744073709551616-k.toNat:Nat):Int):=by
  rw[IntKind.wrap_u64];omega
 have:=u64_and_nat (18446744073709551616-k.toNat) 31 (by omega) (by decide)
 rw[hw]
 refine this.trans ?_
 rw[show(31:Nat)=2^5-1 from rfl,Nat.and_two_pow_sub_one_eq_mod]
 omega
theorem iH (x:Nat) (k:Int) (w:World) (hx:x<4294967296) (h0:0<k) (h1:k<32):
  Calls Tryz.prog 401 #[.int .u32 x, .int .i64 (-k)] w fun e w'=>e= .returned (.int .u32 ((dq x k.toNat:Nat):Int))∧w=w':=by
 have hb:=Ci k h0 h1
 have hs:(32:Int)-k≤31:=by omega
 have hs0:(0:Int)≤32-k:=by omega
 have hp:(x:Int)<4294967296:=by omega
 have hfin:Hid (bits BinOp.or IntKind.u32 ((x:Int)*2^(32-k).toNat % 4294967296) ((x:Int)/2^(32-(32-k)).toNat)=((dq x k.toNat:Nat):Int)):=by
  have:=Et x k.toNat hx (by omega) (by omega)
  rw[show(32-k).toNat=32-k.toNat by omega,show(32-(32-k)).toNat=k.toNat by omega]
  exact this
 go_enter Tryz.func401,Tryz.ntmps401
 go_wp2
 go_ret
 refine⟨?_,rfl⟩
 show Ending.returned (Value.int IntKind.u32 _)= _
 rw[←hfin.out]
theorem si (a b c:Nat) (ha:a<4294967296) (hb:b<4294967296) (hc:c<4294967296):
  bits BinOp.xor IntKind.u32 (bits BinOp.xor IntKind.u32 (a:Int) (b:Int)) (c:Int)=((a^^^b^^^c:Nat):Int):=by
 rw[u32_xor_nat _ _ ha hb,u32_xor_nat _ _ (uM ha hb) hc]
theorem sj (x:Nat) (a b c:Int) (w:World) (hx:x<4294967296) (ha:0<a) (ha':a<32) (hb:0<b) (hb':b<32) (hc:0<c) (hc':c<32):
  Calls Tryz.prog 392 #[.int .u32 x, .int .i64 a, .int .i64 b, .int .i64 c, .bool false] w fun e w'=>e= .returned (.int .u32 ((dq x a.toNat^^^dq x b.toNat^^^dq x c.toNat:Nat):Int))∧w=w':=by
 have hf:Hid _:=si (dq x a.toNat) (dq x b.toNat) (dq x c.toNat) (lT _ _) (lT _ _) (lT _ _)
 go_enter Tryz.func392,Tryz.ntmps392
 go_wp2_with fail
 refine(iH x c _ hx hc hc').mono ?_;rintro e w' ⟨rfl,rfl⟩
 go_wp2_with fail
 refine(iH x a _ hx ha ha').mono ?_;rintro e w' ⟨rfl,rfl⟩
 go_wp2_with fail
 refine(iH x b _ hx hb hb').mono ?_;rintro e w' ⟨rfl,rfl⟩
 go_wp2_with fail
 go_ret
 refine⟨?_,rfl⟩
 show Ending.returned (Value.int IntKind.u32 _)= _
 rw[←hf.out]
theorem oV (x:Nat) (a b c:Int) (w:World) (hx:x<4294967296) (ha:0<a) (ha':a<32) (hb:0<b) (hb':b<32) (hc:0<c) (hc':c<32):
  Calls Tryz.prog 392 #[.int .u32 x, .int .i64 a, .int .i64 b, .int .i64 c, .bool true] w fun e w'=>e= .returned (.int .u32 ((dq x a.toNat^^^dq x b.toNat^^^x/2^c.toNat:Nat):Int))∧w=w':=by
 have hf:Hid (bits BinOp.xor IntKind.u32 (bits BinOp.xor IntKind.u32 ((dq x a.toNat:Nat):Int) ((dq x b.toNat:Nat):Int)) ((x:Int)/2^c.toNat)=((dq x a.toNat^^^dq x b.toNat^^^x/2^c.toNat:Nat):Int)):=by
  have:=si (dq x a.toNat) (dq x b.toNat) (x/2^c.toNat) (lT _ _) (lT _ _) (Nat.lt_of_le_of_lt (Nat.div_le_self _ _) hx)
  rw[show(x:Int)/2^c.toNat=((x/2^c.toNat:Nat):Int) by simp]
  exact this
 go_enter Tryz.func392,Tryz.ntmps392
 go_wp2_with fail
 refine(iH x c _ hx hc hc').mono ?_;rintro e w' ⟨rfl,rfl⟩
 go_wp2_with fail
 refine(iH x a _ hx ha ha').mono ?_;rintro e w' ⟨rfl,rfl⟩
 go_wp2_with fail
 refine(iH x b _ hx hb hb').mono ?_;rintro e w' ⟨rfl,rfl⟩
 go_wp2_with fail
 go_ret
 refine⟨?_,rfl⟩
 show Ending.returned (Value.int IntKind.u32 _)= _
 rw[←hf.out]
theorem Cj (x:Nat) (w:World) (hx:x<4294967296):
  Calls Tryz.prog 392 #[.int .u32 x, .int .i64 6, .int .i64 11, .int .i64 25, .bool false] w fun e w'=>e= .returned (.int .u32 (IF x:Nat))∧w=w':=
 sj x 6 11 25 w hx (by decide) (by decide) (by decide) (by decide) (by decide) (by decide)
theorem Cm (x:Nat) (w:World) (hx:x<4294967296):
  Calls Tryz.prog 392 #[.int .u32 x, .int .i64 2, .int .i64 13, .int .i64 22, .bool false] w fun e w'=>e= .returned (.int .u32 (IE x:Nat))∧w=w':=
 sj x 2 13 22 w hx (by decide) (by decide) (by decide) (by decide) (by decide) (by decide)
theorem CB (x:Nat) (w:World) (hx:x<4294967296):
  Calls Tryz.prog 392 #[.int .u32 x, .int .i64 7, .int .i64 18, .int .i64 3, .bool true] w fun e w'=>e= .returned (.int .u32 (EV x:Nat))∧w=w':=
 oV x 7 18 3 w hx (by decide) (by decide) (by decide) (by decide) (by decide) (by decide)
theorem CC (x:Nat) (w:World) (hx:x<4294967296):
  Calls Tryz.prog 392 #[.int .u32 x, .int .i64 17, .int .i64 19, .int .i64 10, .bool true] w fun e w'=>e= .returned (.int .u32 (EW x:Nat))∧w=w':=
 oV x 17 19 10 w hx (by decide) (by decide) (by decide) (by decide) (by decide) (by decide)
theorem kZ (s:ByteArray) (i:Nat) (h:i<s.size):s.data.toList.getD i 0=s[i]:=by
 have h':i<s.data.toList.length:=by simpa using h
 simp[List.getD_eq_getElem?_getD,List.getElem?_eq_getElem h']
 rfl
theorem Aa (a b c d:Nat) (ha:a<256) (hb:b<256) (hc:c<256) (hd:d<256):
  bits BinOp.or IntKind.u32 (bits BinOp.or IntKind.u32 (bits BinOp.or IntKind.u32 ((a:Int) % 4294967296*16777216 % 4294967296) ((b:Int) % 4294967296*65536 % 4294967296)) ((c:Int) % 4294967296*256 % 4294967296)) ((d:Int) % 4294967296)
   =((a*16777216+b*65536+c*256+d:Nat):Int):=by
 have e1:(a:Int) % 4294967296*16777216 % 4294967296=((a*16777216:Nat):Int):=by omega
 have e2:(b:Int) % 4294967296*65536 % 4294967296=((b*65536:Nat):Int):=by omega
 have e3:(c:Int) % 4294967296*256 % 4294967296=((c*256:Nat):Int):=by omega
 have e4:(d:Int) % 4294967296=(d:Int):=by omega
 have j1:=nat_join 24 (a*16777216) (b*65536) (by omega) (by omega)
 have j2:=nat_join 16 (a*16777216+b*65536) (c*256) (by omega) (by omega)
 have j3:=nat_join 8 (a*16777216+b*65536+c*256) d (by omega) (by omega)
 rw[e1,e2,e3,e4,u32_or_nat _ _ (by omega) (by omega),j1,u32_or_nat _ _ (by omega) (by omega),j2,u32_or_nat _ _ (by omega) (by omega),j3]
theorem xO (s:ByteArray) (w:World) (h:4≤s.size):
  Calls Tryz.prog 400 #[.string s] w fun e w'=>e= .returned (.int .u32 (be32 s.data.toList 0:Nat))∧∃n,w'=w.drewN n:=by
 have h0:0<s.size:=by omega
 have h1:1<s.size:=by omega
 have h2:2<s.size:=by omega
 have h3:3<s.size:=by omega
 have h1':(1:Int)<s.size:=by omega
 have h2':(2:Int)<s.size:=by omega
 have h3':(3:Int)<s.size:=by omega
 have hf:Hid _:=Aa _ _ _ _ s[0].toNat_lt s[1].toNat_lt s[2].toNat_lt s[3].toNat_lt
 have hb:Hid (be32 s.data.toList 0=s[0].toNat*16777216+s[1].toNat*65536+s[2].toNat*256+s[3].toNat):=by
  show be32 s.data.toList 0= _
  unfold be32
  rw[kZ s _ h0,kZ s _ h1,kZ s _ h2,kZ s _ h3]
 go_enter Tryz.func400,Tryz.ntmps400
 go_wp2
 go_quiet (fail)
 go_wp2
 go_ret
 refine⟨?_,_,rfl⟩
 show Ending.returned (Value.int IntKind.u32 _)= _
 rw[hb.out,←hf.out]
theorem Ab (w:World):
  Calls Tryz.prog 360 #[] w fun e w'=>e= .returned S8.first.val∧Below w.heap.size w w':=by
 go_enter Tryz.func360,Tryz.ntmps360
 go_wp2
 exact bodyPost_ret (v:=S8.first.val) (by simp[results,Tryz.results360,go_sem];rfl) rfl ⟨rfl,((Below.refl _ _).alloc (Nat.le_refl _) _)⟩
def bp (l:List Nat):List Value:=l.map (fun n=> .int .u32 ((n:Nat):Int))
theorem eh (l:List Nat):(bp l).length=l.length:=by simp[bp]
theorem j7 (l:List Nat):∀v∈bp l,v.oneCell'=true:=by
 intro v hv
 obtain⟨_,_,rfl⟩:=List.mem_map.1 hv
 rfl
theorem fL (l:List Nat) (i:Nat) (hi:i<l.length):(bp l)[i]?=some (.int .u32 ((l.getD i 0:Nat):Int)):=by
 simp[bp,hi]
def fB (blk:List UInt8) (k:Nat):List Value:=bp (bh blk k++List.replicate (64-k) 0)
theorem k9 (blk:List UInt8) (k i:Nat) (hi:i<k):(fB blk k)[i]?=some (.int .u32 (((bh blk k).getD i 0:Nat):Int)):=by
 have hl:=dI blk k
 simp[fB,bp,List.getElem?_append,hl,hi]
theorem Ac (blk:List UInt8) (k:Nat) (hk:k<64):(fB blk k)[k]?=some (.int .u32 0):=by
 have hl:=dI blk k
 unfold fB bp
 rw[show List.replicate (64-k) 0=0::List.replicate (64-(k+1)) 0 by rw[←List.replicate_succ];congr 1;omega]
 simp[hl]
theorem qy (blk:List UInt8) (k:Nat) (hk:k<64):(fB blk k).set k (.int .u32 ((fP blk (bh blk k):Nat):Int))=fB blk (k+1):=by
 have hl:=dI blk k
 unfold fB bp
 rw[show List.replicate (64-k) 0=0::List.replicate (64-(k+1)) 0 by rw[←List.replicate_succ];congr 1;omega]
 simp only[bh,List.map_append,List.map_cons,List.map_nil,List.append_assoc]
 rw[List.set_append_right _ _ (by simp[hl])]
 simp[hl]
theorem xP (blk:List UInt8):fB blk 0=List.replicate 64 (.int .u32 0):=by simp[fB,bp,bh]
theorem Ad (blk:List UInt8):fB blk 64=bp (bh blk 64):=by simp[fB]
theorem xQ (l:List UInt8) (k:Nat) (h:k<16):fP l (bh l k)=be32 l k:=by
 unfold fP;rw[dI,if_pos h]
theorem xR (l:List UInt8) (k:Nat) (h:¬k<16):fP l (bh l k)=
  ((bh l k).getD (k-16) 0+EV ((bh l k).getD (k-15) 0)+(bh l k).getD (k-7) 0+EW ((bh l k).getD (k-2) 0)) % 4294967296:=by
 unfold fP;rw[dI,if_neg h]
theorem extract_toList (s:ByteArray) (a b:Nat):(s.extract a b).data.toList=(s.data.toList.take b).drop a:=by
 rw[ByteArray.data_extract,Array.toList_extract]
 simp[List.extract,List.drop_take]
theorem CE (l:List UInt8) (k:Nat):be32 (l.drop (4*k)) 0=be32 l k:=by
 simp[be32,List.getElem?_drop]
theorem vt (s:ByteArray) (k n:Nat) (hn:s.size≤n):be32 (s.extract (4*k) n).data.toList 0=be32 s.data.toList k:=by
 rw[extract_toList,List.take_of_length_le (by simpa using hn),CE]
theorem words_walk (s:ByteArray) (w:World) (h:s.size=64):
  Calls Tryz.prog 390 #[.string s] w fun e w'=>e= .returned (.agg (bp (bh s.data.toList 64)).toArray)∧Below w.heap.size w w':=by
 have hs0:s.size≤64:=by omega
 have hs1:64≤s.size:=by omega
 clear h
 have hi:Hid ((Tryz.prog.info? 441).map (·.size)=some 64):=by show _= _;kernel_rfl
 go_enter Tryz.func390,Tryz.ntmps390
 go_wp2_with fail
 go_loopw [5] (fun i wr=>∃k:Nat,k≤64∧i= .int .i64 k∧ac wr w.heap.size (List.replicate 64 (.int .u32 0)) 441∧ac wr (w.heap.size+1) (fB s.data.toList k) 441∧Below w.heap.size w wr∧w.heap.size+1<wr.heap.size) (fun i _=>64-(intOf i).toNat)
 case atStart=>
  refine⟨0,by omega,rfl,(ac.new w (List.replicate 64 (.int .u32 0)) _).alloc _, ?_,((Below.refl _ _).alloc (Nat.le_refl _) _).alloc (by simp) _,by simp⟩
  rw[xP]
  have:=ac.new (w.alloc (.cells (List.replicate 64 (.int .u32 0)).toArray 441)) (List.replicate 64 (.int .u32 0)) 441
  simpa using this
 case round=>
  obtain⟨k,hk,rfl,hres,hblk,hbel,hsz⟩:=hrel
  by_cases hlt:k<64
  ·have hfz:=hblk.free k
   have hck:=hblk.cell (Ac s.data.toList k hlt)
   have hlt':(k:Int)<64:=by omega
   by_cases h16:k<16
   ·have HB:=Lib.hid hblk;clear hblk
    have HR:=Lib.hid hres;clear hres
    go_wp2_with fail
    refine(xO _ _ (by simp;omega)).mono ?_
    rintro e w' ⟨rfl,n,rfl⟩
    rw[vt s k _ (Nat.le_refl _)]
    go_wp2_with fail
    go_roundw
    case rel=>
     refine⟨k+1,by omega,by go_num, ?_, ?_, ?_, ?_⟩
     ·exact(HR.out.drewN n).set_other (by simp) _
     ·refine((HB.out.drewN n).set k _).ext ?_
      rw[←qy _ _ hlt,xQ _ _ h16]
     ·exact((Below.drewN hbel n).setCell (by simp) _)
     ·simpa using hsz
    case measure=>simp[intOf];omega
   ·obtain⟨i16,h16'⟩:∃i,i=k-16:=⟨_,rfl⟩
    obtain⟨i15,h15'⟩:∃i,i=k-15:=⟨_,rfl⟩
    obtain⟨i7,h7'⟩:∃i,i=k-7:=⟨_,rfl⟩
    obtain⟨i2,h2'⟩:∃i,i=k-2:=⟨_,rfl⟩
    obtain⟨a16,H16⟩:∃a,Hid (a=(bh s.data.toList k).getD i16 0):=⟨_,rfl⟩
    obtain⟨a15,H15⟩:∃a,Hid (a=(bh s.data.toList k).getD i15 0):=⟨_,rfl⟩
    obtain⟨a7,H7⟩:∃a,Hid (a=(bh s.data.toList k).getD i7 0):=⟨_,rfl⟩
    obtain⟨a2,H2⟩:∃a,Hid (a=(bh s.data.toList k).getD i2 0):=⟨_,rfl⟩
    have hw16:=hblk.cell (k9 s.data.toList k i16 (by omega));rw[←H16.out]at hw16
    have hw15:=hblk.cell (k9 s.data.toList k i15 (by omega));rw[←H15.out]at hw15
    have hw7:=hblk.cell (k9 s.data.toList k i7 (by omega));rw[←H7.out]at hw7
    have hw2:=hblk.cell (k9 s.data.toList k i2 (by omega));rw[←H2.out]at hw2
    have l15':a15<4294967296:=by rw[H15.out];exact qc _ _ _
    have l2':a2<4294967296:=by rw[H2.out];exact qc _ _ _
    have HB:=Lib.hid hblk;clear hblk
    have HR:=Lib.hid hres;clear hres
    have hfin:Hid ((((a16:Nat):Int)+((EV a15:Nat):Int)+((a7:Nat):Int)+((EW a2:Nat):Int)) % 4294967296=((fP s.data.toList (bh s.data.toList k):Nat):Int)):=by
     show _= _
     rw[xR _ _ h16,H16.out,H15.out,H7.out,H2.out,h16',h15',h7',h2']
     simp
    have e16:IntKind.i64.wrap ((k:Int)-16)=i16:=by rw[IntWalk.i64_in _ (by omega)];omega
    have e15:IntKind.i64.wrap ((k:Int)-15)=i15:=by rw[IntWalk.i64_in _ (by omega)];omega
    have e7:IntKind.i64.wrap ((k:Int)-7)=i7:=by rw[IntWalk.i64_in _ (by omega)];omega
    have e2:IntKind.i64.wrap ((k:Int)-2)=i2:=by rw[IntWalk.i64_in _ (by omega)];omega
    have l16:(i16:Int)<64:=by omega
    have l15:(i15:Int)<64:=by omega
    have l7:(i7:Int)<64:=by omega
    have l2:(i2:Int)<64:=by omega
    clear h16' h15' h7' h2'
    go_wp2_with fail
    refine wp_region_still_tail 23 (by kernel_rfl) (by kernel_rfl) ?_
    simp only[List.take_succ_cons,List.take_zero,List.drop_succ_cons,List.drop_zero]
    iterate 9 still_step
    still_call (mr (CB _ _ l15'))
    iterate 10 still_step
    still_call (mr (CC _ _ l2'))
    iterate 2 still_step
    refine wpStill_nil ?_
    clear e16 e15 e7 e2
    go_wp2_with fail
    go_roundw
    case rel=>
     rw[hfin.out]
     refine⟨k+1,by omega,by go_num, ?_, ?_, ?_, ?_⟩
     ·exact(HR.out.set_other (by simp) _).drew
     ·exact((HB.out.set k _).ext (qy _ _ hlt)).drew
     ·exact(hbel.setCell (by simp) _).drew
     ·simpa using hsz
    case measure=>simp[intOf];omega
  ·obtain rfl:k=64:=by omega
   have HB:=Lib.hid hblk;clear hblk
   have HR:=Lib.hid hres;clear hres
   have hfin:Hid (fB s.data.toList 64=bp (bh s.data.toList 64)):=Ad _
   have hlen:Hid ((bp (bh s.data.toList 64)).length=64):=by show _= _;rw[eh,dI]
   have hlen2:Hid ((bp (bh s.data.toList 64)).length=(List.replicate 64 (Value.int .u32 0)).length):=by show _= _;rw[hlen.out];simp
   go_wp2_with (first
    |((with_reducible refine au 441 (.tmp 3) (w.heap.size+1) (bp (bh s.data.toList 64)) _ _ (HB.out.ext hfin.out) Tryz.underlying441 rfl (hi.out.trans (congrArg some hlen.out.symm)) ?hgd ?ho ?hx ?_);(case hgd|ho|hx=>rfl))
    |((with_reducible refine iq 441 (.tmp 2) (.tmp 41) w.heap.size _ (bp (bh s.data.toList 64)) _ HR.out hlen2.out (hi.out.trans (congrArg some hlen.out.symm)) (j7 _) ?hgd ?ho ?hx ?hy ?_);(case hgd|ho|hx|hy=>rfl))
    |((with_reducible refine bodyPost_ret (v:= .agg (bp (bh s.data.toList 64)).toArray) ?hr ?hd ?hR)
      (case hd=>rfl)
      (case hR=>exact⟨rfl,Below.setCells (Nat.le_refl _) _ _ hbel⟩)
      (case hr=>exact results_cell_row rfl _ _ w.heap.size _ _ _ _ rfl (HR.out.setAll (bp (bh s.data.toList 64)) hlen2.out) Tryz.underlying441 rfl (by rw[List.size_toArray,hlen.out];exact hi.out))))
def S8.cells (s:S8):List Value:=[.int .u32 s.a, .int .u32 s.b, .int .u32 s.c, .int .u32 s.d, .int .u32 s.e, .int .u32 s.f, .int .u32 s.g, .int .u32 s.h]
theorem S8.cells_one (s:S8):∀v∈s.cells,v.oneCell'=true:=by
 intro v hv
 simp only[S8.cells,List.mem_cons,List.not_mem_nil,or_false]at hv
 rcases hv with rfl|rfl|rfl|rfl|rfl|rfl|rfl|rfl<;>rfl
def S8.zero:S8:=⟨0,0,0,0,0,0,0,0⟩
theorem ry (w:World):
  Calls Tryz.prog 391 #[] w fun e w'=>e= .returned (.agg (bp fq).toArray)∧Below w.heap.size w w':=by
 have hi:Hid ((Tryz.prog.info? 441).map (·.size)=some (bp fq).length):=by show _= _;kernel_rfl
 have hz:Hid (ac (w.alloc (.cells (List.replicate 64 (Value.int .u32 0)).toArray 441)) w.heap.size (List.replicate 64 (.int .u32 0)) 441):=ac.new _ _ _
 have hb:Hid (Below w.heap.size w (w.alloc (.cells (List.replicate 64 (Value.int .u32 0)).toArray 441))):=(Below.refl _ _).alloc (Nat.le_refl _) _
 have hl:Hid ((bp fq).length=(List.replicate 64 (Value.int .u32 0)).length):=by show _= _;rfl
 go_enter Tryz.func391,Tryz.ntmps391
 go_wp2_with (first
  |((with_reducible refine ao 441 ?parts (bp fq) ?hgd ?ho ?hf ?_);(case hgd|ho=>rfl);(case hf=>kernel_rfl))
  |((with_reducible refine iq 441 (.tmp 0) (.tmp 1) w.heap.size (List.replicate 64 (Value.int .u32 0)) (bp fq) 441 ?hz ?hl hi.out (j7 _) ?hgd ?ho ?hx ?hy ?_);(case hgd|ho|hx=>rfl);(case hz=>exact hz.out);(case hl=>exact hl.out);(case hy=>rfl))
  |((with_reducible refine bodyPost_ret (v:= .agg (bp fq).toArray) ?hr ?hd ?hR)
    (case hd=>rfl)
    (case hR=>exact⟨rfl,Below.setCells (Nat.le_refl _) _ _ hb.out⟩)
    (case hr=>exact results_cell_row rfl _ _ w.heap.size _ _ _ _ rfl (hz.out.setAll (bp fq) hl.out) Tryz.underlying441 rfl (by rw[List.size_toArray];exact hi.out))))
theorem Ho (e f g:Nat) (he:e<4294967296) (hf:f<4294967296) (hg:g<4294967296):
  bits BinOp.xor IntKind.u32 (g:Int) (bits BinOp.and IntKind.u32 (e:Int) (bits BinOp.xor IntKind.u32 (f:Int) (g:Int)))=((EX e f g:Nat):Int):=by
 rw[u32_xor_nat _ _ hf hg,u32_and_nat _ _ he (uM hf hg),u32_xor_nat _ _ hg (pB he),GL he hg]
theorem F8 (a b c:Nat) (ha:a<4294967296) (hb:b<4294967296) (hc:c<4294967296):
  bits BinOp.or IntKind.u32 (bits BinOp.and IntKind.u32 (a:Int) (b:Int)) (bits BinOp.and IntKind.u32 (c:Int) (bits BinOp.or IntKind.u32 (a:Int) (b:Int)))=((EY a b c:Nat):Int):=by
 rw[u32_and_nat _ _ ha hb,u32_or_nat _ _ ha hb,u32_and_nat _ _ hc (Fv ha hb),u32_or_nat _ _ (pB ha) (pB hc),GM]
def jl (n:Nat):List Value:=List.replicate n (.int .u32 0)
theorem CG (w:World):Sem.run Tryz.prog (zeroValue 441) w= .ok (.agg (jl 64).toArray) w:=by kernel_rfl
theorem E4 (w:World):Sem.run Tryz.prog (zeroValue 415) w= .ok (.agg S8.zero.cells.toArray) w:=by kernel_rfl
theorem CH:(Tryz.prog.info? 441).map (·.size)=some 64:=by kernel_rfl
theorem lg (s:S8):(Tryz.prog.info? 415).map (·.size)=some s.cells.length:=by kernel_rfl
structure Hu (w0:World) (s:S8) (ws:List Nat) (b2 b4 b5 b6 b7:Nat) (y:S8) (w:World):Prop where
 x:ac w b2 s.cells 415
 out:ac w b4 S8.zero.cells 415
 ws:ac w b5 (bp ws) 441
 ks:ac w b6 (bp fq) 441
 y:ac w b7 y.cells 415
 bel:Below w0.heap.size w0 w
 lo:w0.heap.size≤b2∧b2<b4∧b4<b5∧b5<b6∧b6<b7
def mix (y x:List Nat) (k:Nat):List Nat:=(List.range 8).map fun i=>if i<k then(y.getD i 0+x.getD i 0) % 4294967296 else y.getD i 0
theorem fR (y x:List Nat) (k:Nat):(mix y x k).length=8:=by simp[mix]
theorem qz (y x:List Nat) (k i:Nat) (hi:i<8):(mix y x k).getD i 0=if i<k then(y.getD i 0+x.getD i 0) % 4294967296 else y.getD i 0:=by
 simp[mix,hi]
theorem F9 (y x:S8):bp (mix y.l x.l 8)=(y.add x).cells:=by rfl
theorem Ge (y x:List Nat) (k:Nat) (hk:k<8):(bp (mix y x k)).set k (.int .u32 (((y.getD k 0+x.getD k 0) % 4294967296:Nat):Int))=bp (mix y x (k+1)):=by
 apply List.ext_getElem?
 intro i
 by_cases hi:i<8
 ·rw[List.getElem?_set]
  by_cases e:k=i
  ·subst e
   rw[if_pos rfl,if_pos (by simp[eh,fR,hi]),fL _ _ (by rw[fR];exact hi),qz _ _ _ _ hi,if_pos (by omega)]
  ·rw[if_neg e,fL _ _ (by rw[fR];exact hi),fL _ _ (by rw[fR];exact hi),qz _ _ _ _ hi,qz _ _ _ _ hi]
   by_cases h:i<k
   ·rw[if_pos h,if_pos (by omega)]
   ·rw[if_neg h,if_neg (by omega)]
 ·rw[List.getElem?_eq_none (by simp[eh,fR];omega),List.getElem?_eq_none (by simp[eh,fR];omega)]
structure Hw (w0:World) (s:S8) (b2 b4 b7:Nat) (y:List Nat) (w:World):Prop where
 x:ac w b2 (bp s.l) 415
 out:ac w b4 S8.zero.cells 415
 y:ac w b7 (bp y) 415
 bel:Below w0.heap.size w0 w
 lo:w0.heap.size≤b2∧b2<b4∧b4<b7
theorem xT (s:S8) (hs:s.ok) (blk:ByteArray) (w:World) (h:blk.size=64):
  Calls Tryz.prog 362 #[s.val, .string blk] w fun e w'=>e= .returned (yI s blk.data.toList).val∧Below w.heap.size w w':=by
 obtain⟨ws,Hws⟩:∃ws,Hid (ws=bh blk.data.toList 64):=⟨_,rfl⟩
 have hlw:Hid ((bp ws).length=64):=by show _= _;rw[Hws.out,eh,dI]
 have hlk:Hid ((bp fq).length=64):=by show _= _;rfl
 have hlz:Hid ((jl 64).length=64):=by show _= _;simp[jl]
 go_enter Tryz.func362,Tryz.ntmps362
 go_wp2_with (first
  |((with_reducible refine ai 415 (.tmp 0) s.cells (some 2) ?hgd ?ho ?hd ?hx ?_);(case hgd|ho|hd|hx=>rfl);(intro b2 w2 l2 B2 e2 z2))
  |((with_reducible refine af 415 S8.zero.cells E4 (some 4) ?hgd ?ho ?hd ?_);(case hgd|ho|hd=>rfl);(intro b4 w4 l4 B4 e4 z4)))
 refine(words_walk blk _ h).mono ?_
 rintro e w5 ⟨rfl,hb5⟩
 rw[←Hws.out]
 go_wp2_with fail
 refine(ry _).mono ?_
 rintro e w6 ⟨rfl,hb6⟩
 go_wp2_with (first
  |((with_reducible refine af 441 (jl 64) CG (some 5) ?hgd ?ho ?hd ?_);(case hgd|ho|hd=>rfl);(intro b5 w7 l5 B5 e5 z5))
  |((with_reducible refine af 441 (jl 64) CG (some 6) ?hgd ?ho ?hd ?_);(case hgd|ho|hd=>rfl);(intro b6 w8 l6 B6 e6 z6);(have B5':=B5.below e6 (by omega)))
  |((with_reducible refine ae 441 (.tmp 5) (.tmp 19) b5 (jl 64) (bp ws) 441 B5' (hlw.out.trans hlz.out.symm) (CH.trans (congrArg some hlw.out.symm)) (j7 _) ?hgd ?ho ?hx ?hy ?_);(case hgd|ho|hx|hy=>rfl);(intro w9 B5w o9);(have B6':=o9.blk B6 (by omega)))
  |((with_reducible refine ae 441 (.tmp 6) (.tmp 20) b6 (jl 64) (bp fq) 441 B6' (hlk.out.trans hlz.out.symm) (CH.trans (congrArg some hlk.out.symm)) (j7 _) ?hgd ?ho ?hx ?hy ?_);(case hgd|ho|hx|hy=>rfl);(intro w10 B6w o10);(have B2':=o10.blk (o9.blk ((((((B2.below e4 (by omega)).below hb5 (by omega)).below hb6 (by have:=hb5.size;omega)).below e5 (by have:=hb5.size;have:=hb6.size;omega)).below e6 (by have:=hb5.size;have:=hb6.size;omega))) (by have:=hb5.size;have:=hb6.size;omega)) (by have:=hb5.size;have:=hb6.size;omega)))
  |((with_reducible refine au 415 (.tmp 2) b2 s.cells 415 _ B2' Tryz.underlying415 rfl (lg s) ?hgd ?ho ?hx ?_);(case hgd|ho|hx=>rfl))
  |((with_reducible refine af 415 S8.zero.cells E4 (some 7) ?hgd ?ho ?hd ?_);(case hgd|ho|hd=>rfl);(intro b7 w11 l7 B7 e7 z7))
  |((with_reducible refine ae 415 (.tmp 7) (.tmp 21) b7 S8.zero.cells s.cells 415 B7 rfl (lg s) (S8.cells_one _) ?hgd ?ho ?hx ?hy ?_);(case hgd|ho|hx|hy=>rfl);(intro w12 B7w o12)))
 have q5:=hb5.size
 have q6:=hb6.size
 have q9:=o9.size
 have q10:=o10.size
 have hw12:Hu w s ws b2 b4 b5 b6 b7 (ly ws s 0) w12:=by
  refine⟨o12.blk (B2'.below e7 (by omega)) (by omega), ?_,o12.blk ((o10.blk B5w (by omega)).below e7 (by omega)) (by omega),o12.blk (B6w.below e7 (by omega)) (by omega),B7w, ?_,by omega⟩
  ·exact o12.blk ((o10.blk (o9.blk (((((B4.below hb5 (by omega)).below hb6 (by omega)).below e5 (by omega)).below e6 (by omega))) (by omega)) (by omega)).below e7 (by omega)) (by omega)
  ·exact o12.below ((o10.below (o9.below ((((((e2.mono l2).trans (e4.mono (by omega))).trans (hb5.mono (by omega))).trans (hb6.mono (by omega))).trans (e5.mono (by omega))).trans (e6.mono (by omega))) (by omega)) (by omega)).trans (e7.mono (by omega))) (by omega)
 clear q5 q6 q9 q10 B2 B4 B5 B6 B7 B5' B6' B2' B5w B6w B7w o9 o10 o12 e2 e4 e5 e6 e7 l2 l4 l5 l6 l7 z2 z4 z5 z6 z7 hb5 hb6
 go_loopw [22] (fun i wr=>∃k:Nat,k≤64∧i= .int .i64 k∧Hu w s ws b2 b4 b5 b6 b7 (ly ws s k) wr) (fun i _=>64-(intOf i).toNat)
 case atStart=>exact⟨0,by omega,rfl,hw12⟩
 case round=>
  clear hw12
  obtain⟨k,hk,rfl,hI⟩:=hrel
  by_cases hlt:k<64
  ·have hlt':(k:Int)<64:=by omega
   obtain⟨y,Hy⟩:∃y,Hid (y=ly ws s k):=⟨_,rfl⟩
   rw[←Hy.out]at hI
   have hy:y.ok:=by rw[Hy.out];exact FA ws hs k
   obtain⟨ya,yb,yc,yd,ye,yf,yg,yh⟩:=y
   obtain⟨a0,a1,a2,a3,a4,a5,a6,a7⟩:=hy
   obtain⟨kk,Hkk⟩:∃kk,Hid (kk=fq.getD k 0):=⟨_,rfl⟩
   obtain⟨wk,Hwk⟩:∃wk,Hid (wk=ws.getD k 0):=⟨_,rfl⟩
   have c0:wr.cell? ⟨b7,0,none⟩=some (.int .u32 ya):=hI.y.cell rfl
   have c1:wr.cell? ⟨b7,1,none⟩=some (.int .u32 yb):=hI.y.cell rfl
   have c2:wr.cell? ⟨b7,2,none⟩=some (.int .u32 yc):=hI.y.cell rfl
   have c3:wr.cell? ⟨b7,3,none⟩=some (.int .u32 yd):=hI.y.cell rfl
   have c4:wr.cell? ⟨b7,4,none⟩=some (.int .u32 ye):=hI.y.cell rfl
   have c5:wr.cell? ⟨b7,5,none⟩=some (.int .u32 yf):=hI.y.cell rfl
   have c6:wr.cell? ⟨b7,6,none⟩=some (.int .u32 yg):=hI.y.cell rfl
   have c7:wr.cell? ⟨b7,7,none⟩=some (.int .u32 yh):=hI.y.cell rfl
   have ck:wr.cell? ⟨b6,k,none⟩=some (.int .u32 kk):=by rw[Hkk.out];exact hI.ks.cell (fL _ _ (by rw[←eh,hlk.out];exact hlt))
   have cw:wr.cell? ⟨b5,k,none⟩=some (.int .u32 wk):=by rw[Hwk.out];exact hI.ws.cell (fL _ _ (by rw[←eh,hlw.out];exact hlt))
   have HI:=Lib.hid hI;clear hI
   go_wp2_with fail
   refine ez (by kernel_rfl) (by kernel_rfl) ?_
   iterate 18 still_step
   refine wpStill_nil ?_
   go_wp2_with fail
   refine ez (by kernel_rfl) (by kernel_rfl) ?_
   iterate 3 still_step
   still_call (mr (Cj _ _ a4))
   repeat still_step
   refine wpStill_nil ?_
   go_wp2_with fail
   refine(Cm _ _ a0).mono ?_
   rintro e w' ⟨rfl,rfl⟩
   go_wp2_with ((with_reducible refine ae 415 (.tmp 7) (.tmp 83) b7 (S8.cells ⟨ya,yb,yc,yd,ye,yf,yg,yh⟩) ?cs 415 HI.out.y.drew.drew ?hl ?hi ?h1 ?hgd ?ho ?hx ?hy ?_);(case hgd|ho|hx|hy|hl=>rfl);(case hi=>exact lg S8.zero);(case h1=>(intro v hv;simp only[List.mem_cons,List.not_mem_nil,or_false]at hv;rcases hv with rfl|rfl|rfl|rfl|rfl|rfl|rfl|rfl<;>rfl));(intro w13 B7n o13))
   go_roundw
   case rel=>
    have eN:ly ws s (k+1)=Bj ⟨ya,yb,yc,yd,ye,yf,yg,yh⟩ kk wk:=by
     rw[show ly ws s (k+1)=Bj (ly ws s k) (fq.getD k 0) (ws.getD k 0)from rfl,←Hy.out,←Hkk.out,←Hwk.out]
    refine⟨k+1,by omega,by go_num, ?_⟩
    rw[eN]
    have hI:=HI.out
    refine⟨o13.blk hI.x.drew.drew ?_,o13.blk hI.out.drew.drew ?_,o13.blk hI.ws.drew.drew ?_,o13.blk hI.ks.drew.drew ?_,B7n.ext ?_,o13.below hI.bel.drew.drew ?_,hI.lo⟩
    all_goals have hlo:=hI.lo
    ·omega
    ·omega
    ·omega
    ·omega
    ·rw[Ho _ _ _ a4 a5 a6,F8 _ _ _ a0 a1 a2]
     simp[S8.cells,Bj,GH,IG]
    ·omega
   case measure=>simp[intOf];omega
  ·obtain rfl:k=64:=by omega
   obtain⟨y,Hy⟩:∃y,Hid (y=ly ws s 64):=⟨_,rfl⟩
   rw[←Hy.out]at hI
   have hU:Hw w s b2 b4 b7 (mix y.l s.l 0) wr:=⟨hI.x,hI.out,hI.y,hI.bel,by have:=hI.lo;omega⟩
   clear hI
   obtain⟨wo,rfl⟩:∃wo:World,wo=wr:=⟨_,rfl⟩
   have HU:=Lib.hid hU;clear hU
   rw[show((64:Nat):Int)=64 from rfl]
   go_wp2_with fail
   go_loopw [85] (fun i wr=>∃k:Nat,k≤8∧i= .int .i64 k∧Hw w s b2 b4 b7 (mix y.l s.l k) wr) (fun i _=>8-(intOf i).toNat)
   case atStart=>exact⟨0,by omega,rfl,HU.out⟩
   case round=>
    obtain⟨k,hk,rfl,hI⟩:=hrel
    clear HU
    by_cases hlt:k<8
    ·have hlt':(k:Int)<8:=by omega
     obtain⟨yk,Hyk⟩:∃a,Hid (a=y.l.getD k 0):=⟨_,rfl⟩
     obtain⟨xk,Hxk⟩:∃a,Hid (a=s.l.getD k 0):=⟨_,rfl⟩
     have cy:wr.cell? ⟨b7,k,none⟩=some (.int .u32 yk):=by
      rw[hI.y.cell (fL _ _ (by rw[fR];exact hlt)),qz _ _ _ _ hlt,if_neg (by omega),←Hyk.out]
     have cx:wr.cell? ⟨b2,k,none⟩=some (.int .u32 xk):=by
      rw[hI.x.cell (fL _ _ (by exact hlt)),←Hxk.out]
     have cf:=hI.y.free k
     have HI:=Lib.hid hI;clear hI
     go_wp2_with fail
     refine dm 8 (by kernel_rfl) (by kernel_rfl) ?_
     simp only[List.take_succ_cons,List.take_zero,List.drop_succ_cons,List.drop_zero]
     iterate 8 still_step
     refine wpStill_nil ?_
     go_wp2_with fail
     go_roundw
     case rel=>
      have hI:=HI.out
      refine⟨k+1,by omega,by go_num,(hI.x.set_other (by have:=hI.lo;show b2≠b7;omega) _).drew,(hI.out.set_other (by have:=hI.lo;show b4≠b7;omega) _).drew, ?_,(hI.bel.setCell (by have:=hI.lo;show w.heap.size≤b7;omega) _).drew,hI.lo⟩
      refine((hI.y.set k _).ext ?_).drew
      rw[←Ge _ _ _ hlt,←Hyk.out,←Hxk.out]
      congr 2
     case measure=>simp[intOf];omega
    ·obtain rfl:k=8:=by omega
     have HI:=Lib.hid hI;clear hI
     obtain⟨r,Hr⟩:∃r,Hid (r=y.add s):=⟨_,rfl⟩
     have ey:Hid (bp (mix y.l s.l 8)=r.cells):=by show _= _;rw[F9,Hr.out]
     have er:Hid (r=yI s blk.data.toList):=by show _= _;rw[Hr.out,Hy.out,Hws.out];rfl
     go_wp2_with (first
      |((with_reducible refine au 415 (.tmp 7) b7 r.cells 415 _ (HI.out.y.ext ey.out) Tryz.underlying415 rfl (lg r) ?hgd ?ho ?hx ?_);(case hgd|ho|hx=>rfl))
      |((with_reducible refine ae 415 (.tmp 4) (.tmp 97) b4 S8.zero.cells r.cells 415 HI.out.out rfl (lg r) (S8.cells_one _) ?hgd ?ho ?hx ?hy ?_);(case hgd|ho|hx|hy=>rfl);(intro w12 B4w o12))
      |((with_reducible refine bodyPost_ret (v:=r.val) ?hr ?hd ?hR)
        (case hd=>rfl)
        (case hR=>exact⟨by rw[er.out],o12.below HI.out.bel (by have:=HI.out.lo;omega)⟩)
        (case hr=>exact results_cell_row rfl _ _ b4 _ _ _ _ rfl B4w Tryz.underlying415 rfl (lg r))))
theorem Gf (n:Nat):jN n=[128]++List.replicate (63-(n+8) % 64) 0++beBytes 8 (8*n):=by simp[jN]
theorem pad_walk (n:Nat) (w:World) (hn:n≤1073741824):
  Calls Tryz.prog 363 #[.int .i64 n] w fun e w'=>∃r,e= .returned (.tuple #[.string r, .int .i64 0])∧ak r (jN n)∧Below w.heap.size w w':=by
 have e1:(n:Int)≤1073741824:=by omega
 obtain⟨m,Hm⟩:∃m,Hid (m=63-(n+8) % 64):=⟨_,rfl⟩
 have em:(63:Int)-((n:Int)+8) % 64=m:=by have:=Hm.out;omega
 have hm:m≤63:=by have:=Hm.out;omega
 obtain⟨q,Hq⟩:∃q,Hid (q=8*n):=⟨_,rfl⟩
 have e8:(8:Int)*(n:Int)=(q:Int):=by have:=Hq.out;omega
 have hq:q≤8589934592:=by have:=Hq.out;omega
 go_enter Tryz.func363,Tryz.ntmps363
 go_wp2_with fail
 refine(mC q 8 _ (by omega) (by omega) (by omega) (by omega)).mono ?_
 rintro e w1 ⟨r1,rfl,t1,hb1⟩
 go_wp2_with fail
 refine(jh m _ (by omega)).mono ?_
 rintro e w2 ⟨r2,rfl,t2,hb2⟩
 have s1:r1.size≤8:=by rw[t1.size,beBytes_length];omega
 have s2:r2.size≤63:=by rw[t2.size,List.length_replicate];omega
 go_wp2_with fail
 go_ret2
 refine⟨_,rfl, ?_,hb1.trans (hb2.mono hb1.size)⟩
 rw[Gf,←Hm.out,←Hq.out]
 exact((ak.mk [128]).append t2).append t1
def gU (l:List Nat) (k:Nat):List UInt8:=(l.take k).flatMap (beBytes 4)
theorem tC (l:List Nat) (k:Nat) (h:k≤l.length):(gU l k).length=4*k:=by
 induction k with
 |zero=>simp[gU]
 |succ k ih=>
  have:=ih (by omega)
  unfold gU at this ⊢
  rw[List.take_succ_eq_append_getElem (by omega),List.flatMap_append,List.length_append,this]
  simp[beBytes_length];omega
theorem Ae (s:S8):gU s.l 8=s.text:=by simp[gU,S8.l,S8.text]
theorem xU (l:List Nat) (k:Nat) (h:k<l.length):gU l (k+1)=gU l k++beBytes 4 (l.getD k 0):=by
 unfold gU
 rw[List.take_succ_eq_append_getElem h,List.flatMap_append]
 simp[h]
theorem IQ (L R:List UInt8) (n x0 x1 x2 x3:Nat) (k:Nat) (hL:L.length=k):
  ((((L++(0::0::0::0::R)).set k (UInt8.ofNat x0)).set (k+1) (UInt8.ofNat x1)).set (k+2) (UInt8.ofNat x2)).set (k+3) (UInt8.ofNat x3)=
  L++(UInt8.ofNat x0::UInt8.ofNat x1::UInt8.ofNat x2::UInt8.ofNat x3::R):=by
 subst hL
 rw[List.set_append_right _ _ (by omega),List.set_append_right _ _ (by simp),List.set_append_right _ _ (by simp),List.set_append_right _ _ (by simp)]
 simp
theorem be4 (n:Nat):beBytes 4 n=[UInt8.ofNat (n/16777216 % 256),UInt8.ofNat (n/65536 % 256),UInt8.ofNat (n/256 % 256),UInt8.ofNat (n % 256)]:=by
 simp[beBytes,Nat.div_div_eq_div_mul]
theorem CJ (w:World):Sem.run Tryz.prog (zeroValue 445) w= .ok (.agg (bytesV (List.replicate 32 0)).toArray) w:=by kernel_rfl
theorem CM (s:S8) (hs:s.ok) (w:World):
  Calls Tryz.prog 364 #[s.val] w fun e w'=>∃r,e= .returned (.string r)∧ak r s.text∧Below w.heap.size w w':=by
 go_enter Tryz.func364,Tryz.ntmps364
 go_wp2_with (first
  |((with_reducible refine ai 415 (.tmp 0) s.cells (some 1) ?hgd ?ho ?hd ?hx ?_);(case hgd|ho|hd|hx=>rfl);(intro b2 w2 l2 B2 e2 z2))
  |((with_reducible refine af 445 (bytesV (List.replicate 32 0)) CJ (some 3) ?hgd ?ho ?hd ?_);(case hgd|ho|hd=>rfl);(intro g w4 l4 B4 e4 z4))
  |((with_reducible refine au 415 (.tmp 1) b2 s.cells 415 _ (B2.below e4 (by omega)) Tryz.underlying415 rfl (lg s) ?hgd ?ho ?hx ?_);(case hgd|ho|hx=>rfl)))
 have hbel0:Below w.heap.size w w4:=(e2.mono l2).trans (e4.mono (by omega))
 have HB4:=Lib.hid B4
 have hlo:w.heap.size≤g:=by omega
 clear B2 B4 e2 e4 z2
 go_loopw [7] (fun i wr=>∃k:Nat,k≤8∧i= .int .i64 k∧ac wr g (bytesV (gU s.l k++List.replicate (32-4*k) 0)) 445∧Below w.heap.size w wr) (fun i _=>8-(intOf i).toNat)
 case atStart=>exact⟨0,by omega,rfl,HB4.out.ext (by simp[gU]),hbel0⟩
 case round=>
  clear HB4 hbel0
  obtain⟨k,hk,rfl,hblk,hbel⟩:=hrel
  by_cases hlt:k<8
  ·have hlt':(k:Int)<8:=by omega
   obtain⟨x,Hx⟩:∃a,Hid (a=s.l.getD k 0):=⟨_,rfl⟩
   have hv:s.cells[k]?=some (.int .u32 (x:Int)):=by rw[Hx.out];exact fL s.l k hlt
   have hlen:=tC s.l k (by show k≤8;omega)
   have HL:=Lib.hid hlen;clear hlen
   have q0:wr.cell? ⟨g,4*k,none⟩=some _:=hblk.cell (iD _ (4*k) (by rw[List.length_append,HL.out];simp;omega))
   have q1:wr.cell? ⟨g,4*k+1,none⟩=some _:=hblk.cell (iD _ (4*k+1) (by rw[List.length_append,HL.out];simp;omega))
   have q2:wr.cell? ⟨g,4*k+2,none⟩=some _:=hblk.cell (iD _ (4*k+2) (by rw[List.length_append,HL.out];simp;omega))
   have q3:wr.cell? ⟨g,4*k+3,none⟩=some _:=hblk.cell (iD _ (4*k+3) (by rw[List.length_append,HL.out];simp;omega))
   have f0:=hblk.free (4*k)
   have f1:=hblk.free (4*k+1)
   have f2:=hblk.free (4*k+2)
   have f3:=hblk.free (4*k+3)
   have HB:=Lib.hid hblk;clear hblk
   go_wp2_with ((with_reducible refine eM 415 309 (.tmp 6) (.tmp 7) s.cells 8 k (.int .u32 (x:Int)) (some 10) Tryz.underlying415 Tryz.isAgg309 Tryz.sizeOf309 hlt hv ?hgd ?ho ?hd ?hx ?hy ?_);(case hgd|ho|hd|hx|hy=>rfl))
   go_roundw
   case rel=>
    refine⟨k+1,by omega,by go_num, ?_,(((hbel.setCell (by show w.heap.size≤g;omega) _).setCell (by show w.heap.size≤g;omega) _).setCell (by show w.heap.size≤g;omega) _).setCell (by show w.heap.size≤g;omega) _⟩
    refine((((HB.out.set _ _).set _ _).set _ _).set _ _).ext ?_
    have n0:(x:Int)/16777216 % 256=(((UInt8.ofNat (x/16777216 % 256)).toNat:Nat):Int):=by simp
    have n1:(x:Int)/65536 % 256=(((UInt8.ofNat (x/65536 % 256)).toNat:Nat):Int):=by simp
    have n2:(x:Int)/256 % 256=(((UInt8.ofNat (x/256 % 256)).toNat:Nat):Int):=by simp
    have n3:(x:Int) % 256=(((UInt8.ofNat (x % 256)).toNat:Nat):Int):=by simp
    rw[n0,n1,n2,n3,fQ,fQ,fQ,fQ]
    congr 1
    rw[show List.replicate (32-4*k) (0:UInt8)=0::0::0::0::List.replicate (32-4*(k+1)) 0 by
     rw[show 32-4*k=32-4*(k+1)+1+1+1+1 by omega];rfl]
    rw[IQ _ _ 0 _ _ _ _ _ HL.out,xU _ _ hlt,←Hx.out,be4]
    simp
   case measure=>simp[intOf];omega
  ·obtain rfl:k=8:=by omega
   have HB:Hid (ac wr g (bytesV s.text) 445):=hblk.ext (by rw[Ae];simp)
   clear hblk
   rw[show((8:Nat):Int)=8 from rfl]
   go_wp2_with ((with_reducible refine eS 217 9 5 (.tmp 38) s.text g 0 32 32 (some 39) Tryz.underlying217 Tryz.underlying5 Tryz.underlying9 HB.out.range (S8.text_length s).symm ?hgd ?ho ?hd ?hx ?_);(case hgd|ho|hd|hx=>rfl))
   go_ret
   exact⟨_,rfl,ak.mk _,hbel⟩
def hcells (st:S8) (r:ByteArray) (n:Nat):List Value:= .bool true::(st.cells++[.string r, .int .i64 (n:Int)])
theorem oY (st:S8) (r:ByteArray) (n:Nat):(Tryz.prog.info? 418).map (·.size)=some (hcells st r n).length:=by kernel_rfl
theorem vu (w:World):
  Calls Tryz.prog 321 #[] w fun e w'=>∃n,e= .returned (.pointer (some ⟨n,0,none⟩))∧w.heap.size≤n∧ac w' n (hcells S8.first ⟨#[]⟩ 0) 418∧Below w.heap.size w w'∧n<w'.heap.size:=by
 go_enter Tryz.func321,Tryz.ntmps321
 go_wp2_with fail
 refine(Ab _).mono ?_
 rintro e w1 ⟨rfl,hb1⟩
 go_wp2_with (first
  |((with_reducible refine ao 418 ?parts (hcells S8.first ⟨#[]⟩ 0) ?hgd ?ho ?hf ?_);(case hgd|ho=>rfl);(case hf=>kernel_rfl))
  |((with_reducible refine ai 418 (.tmp 2) (hcells S8.first ⟨#[]⟩ 0) (some 3) ?hgd ?ho ?hd ?hx ?_);(case hgd|ho|hd|hx=>rfl);(intro n w2 l2 B2 e2 z2)))
 go_ret
 have:=hb1.size
 exact⟨n,rfl,by omega,B2,hb1.trans (e2.mono (by omega)),z2⟩
theorem qA (b:Nat) (st:S8) (r:ByteArray) (n:Nat) (w:World) (hb:ac w b (hcells st r n) 418):
  Calls Tryz.prog 361 #[.pointer (some ⟨b,0,none⟩)] w fun e w'=>e= .returned (.bool true)∧w=w':=by
 have c0:w.cell? ⟨b,0,none⟩=some (.bool true):=hb.cell rfl
 clear hb
 go_enter Tryz.func361,Tryz.ntmps361
 go_wp2
 go_ret
 exact⟨rfl,rfl⟩
def bE (m:List UInt8):S8:=blocks (m.length/64) S8.first m
def eT (m:List UInt8):List UInt8:=m.drop (64*(m.length/64))
def kC (w:World) (b:Nat) (m:List UInt8):Prop:=∃r,ak r (eT m)∧ac w b (hcells (bE m) r m.length) 418
def CO:Value→Nat| .string s=>s.size|_=>0
theorem xW (k:Nat) (s:S8) (l:List UInt8):blocks (k+1) s l=yI (blocks k s l) ((l.drop (64*k)).take 64):=by
 induction k generalizing s l with
 |zero=>simp[blocks]
 |succ k ih=>
  rw[blocks,ih,List.drop_drop,show 64+64*k=64*(k+1) by omega]
  rfl
theorem Eu (m x:List UInt8) (k:Nat) (hk:64*k≤(eT m++x).length) (hlt:(eT m++x).length-64*k<64):
  bE (m++x)=blocks k (bE m) (eT m++x)∧eT (m++x)=(eT m++x).drop (64*k):=by
 have hl:(eT m++x).length=m.length-64*(m.length/64)+x.length:=by simp[eT]
 have hq:(m++x).length/64=m.length/64+k:=by rw[List.length_append];omega
 have hM:m++x=m.take (64*(m.length/64))++(eT m++x):=by rw[←List.append_assoc,eT,List.take_append_drop]
 have ht:(m.take (64*(m.length/64))).length=64*(m.length/64):=by simp;omega
 constructor
 ·unfold bE
  rw[hq]
  conv=>lhs;rw[hM]
  rw[sQ _ _ _ _ _ ht,xn]
 ·conv=>lhs;unfold eT
  rw[hq]
  conv=>lhs;rw[hM]
  rw[List.drop_append,ht,List.drop_eq_nil_of_le (by rw[ht];omega),List.nil_append]
  congr 1;omega
theorem CP (m:List UInt8):(bE m).ok:=rY _ S8.first_ok _
theorem Af {w:World} {b:Nat} {st:S8} {r:ByteArray} {n:Nat} (h:ac w b (hcells st r n) 418):
  w.cell? ⟨b,1,none⟩=some (.int .u32 st.a)∧w.cell? ⟨b,2,none⟩=some (.int .u32 st.b)∧w.cell? ⟨b,3,none⟩=some (.int .u32 st.c)∧w.cell? ⟨b,4,none⟩=some (.int .u32 st.d)∧
  w.cell? ⟨b,5,none⟩=some (.int .u32 st.e)∧w.cell? ⟨b,6,none⟩=some (.int .u32 st.f)∧w.cell? ⟨b,7,none⟩=some (.int .u32 st.g)∧w.cell? ⟨b,8,none⟩=some (.int .u32 st.h)∧
  w.frozen? ⟨b,1,none⟩=false∧w.frozen? ⟨b,2,none⟩=false∧w.frozen? ⟨b,3,none⟩=false∧w.frozen? ⟨b,4,none⟩=false∧
  w.frozen? ⟨b,5,none⟩=false∧w.frozen? ⟨b,6,none⟩=false∧w.frozen? ⟨b,7,none⟩=false∧w.frozen? ⟨b,8,none⟩=false:=
 ⟨h.cell rfl,h.cell rfl,h.cell rfl,h.cell rfl,h.cell rfl,h.cell rfl,h.cell rfl,h.cell rfl,h.free _,h.free _,h.free _,h.free _,h.free _,h.free _,h.free _,h.free _⟩
theorem vx (s:S8) (hs:s.ok) (blk:ByteArray) (w:World) (h:blk.size=64):
  Calls Tryz.prog 362 #[.agg #[.int .u32 s.a, .int .u32 s.b, .int .u32 s.c, .int .u32 s.d, .int .u32 s.e, .int .u32 s.f, .int .u32 s.g, .int .u32 s.h], .string blk] w fun e w'=>
   ∃x:S8,e= .returned (.agg #[.int .u32 x.a, .int .u32 x.b, .int .u32 x.c, .int .u32 x.d, .int .u32 x.e, .int .u32 x.f, .int .u32 x.g, .int .u32 x.h])∧Hid (x=yI s blk.data.toList)∧Below w.heap.size w w':=
 (xT s hs blk w h).mono fun _ _ ⟨a,b⟩=>⟨_,a,rfl,b⟩
theorem put_walk (b:Nat) (m:List UInt8) (s:ByteArray) (w:World) (hb:kC w b m) (hn:m.length+s.size≤1073741824):
  Calls Tryz.prog 322 #[.pointer (some ⟨b,0,none⟩), .string s] w fun e w'=>e= .returned (.int .i64 0)∧kC w' b (m++s.data.toList)∧Kept b w w':=by
 obtain⟨r,tr,hblk⟩:=hb
 have hr:r.size≤63:=by rw[tr.size,eT,List.length_drop];omega
 have hs:s.size≤1073741824:=by omega
 obtain⟨n,Hn⟩:∃n,Hid (n=m.length):=⟨_,rfl⟩
 rw[←Hn.out]at hblk hn
 have c9:w.cell? ⟨b,9,none⟩=some (.string r):=hblk.cell rfl
 have c10:w.cell? ⟨b,10,none⟩=some (.int .i64 n):=hblk.cell rfl
 have f10:=hblk.free 10
 have HB:=Lib.hid hblk;clear hblk
 go_enter Tryz.func322,Tryz.ntmps322
 go_wp2_with fail
 refine(qA b (bE m) r n _ HB.out).mono ?_
 rintro e w1 ⟨rfl,rfl⟩
 go_wp2_with fail
 obtain⟨L,HL⟩:∃L,Hid (L=eT m++s.data.toList):=⟨_,rfl⟩
 have hLl:Hid (L.length=r.size+s.size):=by show _= _;rw[HL.out,List.length_append,tr.size];rfl
 have e14:Hid (((n:Nat):Int)+(s.size:Int)=((n+s.size:Nat):Int)):=by show _= _;omega
 rw[e14.out]
 obtain⟨N,HN⟩:∃N,Hid (N=n+s.size):=⟨_,rfl⟩
 rw[←HN.out]
 have HB2:Hid (ac (w.setCell ⟨b,10,none⟩ (.int .i64 ((N:Nat):Int))) b (hcells (bE m) r N) 418):=(HB.out.set 10 _).ext rfl
 have HK2:Hid (Kept b w (w.setCell ⟨b,10,none⟩ (.int .i64 ((N:Nat):Int)))):=(Kept.refl b w).setCell 10 _
 have hbs:b<w.heap.size:=HB.out.lt
 have tL:ak (r++s) L:=by rw[HL.out];exact tr.append (ak.self s)
 clear HB c9 c10 f10 e14
 go_loopw [1] (fun v wr=>∃k t,v= .string t∧64*k≤L.length∧ak t (L.drop (64*k))∧ac wr b (hcells (blocks k (bE m) L) r N) 418∧Kept b w wr) (fun v _=>CO v)
 case atStart=>exact⟨0,r++s,rfl,by omega,tL.cast (by simp),HB2.out,HK2.out⟩
 case round=>
  clear HB2 HK2
  obtain⟨k,t,rfl,hk,tt,hblk,hkep⟩:=hrel
  have ht:t.size=L.length-64*k:=by rw[tt.size,List.length_drop]
  have hok:(blocks k (bE m) L).ok:=rY k (CP m) L
  obtain⟨st,Hst⟩:∃st,Hid (st=blocks k (bE m) L):=⟨_,rfl⟩
  rw[←Hst.out]at hblk hok
  have hts:t.size≤1073741900:=by have:=hLl.out;omega
  have Ht:=Lib.hid ht;clear ht
  have hlt':b<wr.heap.size:=hblk.lt
  by_cases hge:64≤t.size
  ·have hge':(64:Int)≤(t.size:Int):=by omega
   have hsz:(t.extract 0 64).size=64:=by simp;omega
   have d1:wr.cell? ⟨b,1,none⟩=some (.int .u32 st.a):=hblk.cell rfl
   have d2:wr.cell? ⟨b,2,none⟩=some (.int .u32 st.b):=hblk.cell rfl
   have d3:wr.cell? ⟨b,3,none⟩=some (.int .u32 st.c):=hblk.cell rfl
   have d4:wr.cell? ⟨b,4,none⟩=some (.int .u32 st.d):=hblk.cell rfl
   have d5:wr.cell? ⟨b,5,none⟩=some (.int .u32 st.e):=hblk.cell rfl
   have d6:wr.cell? ⟨b,6,none⟩=some (.int .u32 st.f):=hblk.cell rfl
   have d7:wr.cell? ⟨b,7,none⟩=some (.int .u32 st.g):=hblk.cell rfl
   have d8:wr.cell? ⟨b,8,none⟩=some (.int .u32 st.h):=hblk.cell rfl
   have HS:=Lib.hid hsz;clear hsz
   have HB:=Lib.hid hblk;clear hblk
   go_wp2_with fail
   go_region_with ((go_at_call 362;refine(vx st hok _ _ HS.out).mono ?_;rintro e w2 ⟨x,rfl,Hx,hb2⟩;have B2:=Lib.hid (HB.out.drew.below hb2 hlt');obtain⟨q1,q2,q3,q4,q5,q6,q7,q8,g1,g2,g3,g4,g5,g6,g7,g8⟩:=Af B2.out))
   clear q1 q2 q3 q4 q5 q6 q7 q8 g1 g2 g3 g4 g5 g6 g7 g8 d1 d2 d3 d4 d5 d6 d7 d8
   go_wp2_with fail
   go_roundw
   case rel=>
    refine⟨k+1,t.extract 64 t.size,rfl, ?_, ?_, ?_, ?_⟩
    ·have:=Ht.out;omega
    ·refine(tt.extract 64 t.size).cast ?_
     rw[List.take_of_length_le (by rw[←tt.size];exact Nat.le_refl _),List.drop_drop,show 64*k+64=64*(k+1) by omega]
    ·refine((((((((B2.out.set _ _).set _ _).set _ _).set _ _).set _ _).set _ _).set _ _).set _ _).ext ?_
     have ex:x=blocks (k+1) (bE m) L:=by
      rw[Hx.out,xW,←Hst.out]
      congr 1
      rw[(tt.extract 0 64),List.drop_zero]
     rw[←ex]
     rfl
    ·exact(((((((((hkep.drew.below' hb2 (Nat.le_refl _)).setCell _ _).setCell _ _).setCell _ _).setCell _ _).setCell _ _).setCell _ _).setCell _ _).setCell _ _)
   case measure=>
    simp[CO]
    omega
  ·have HB:=Lib.hid hblk;clear hblk
   go_wp2_with fail
   refine(qf t _ (by omega)).mono ?_
   rintro e w3 ⟨rfl,hb3⟩
   have B3:=HB.out.below hb3 hlt'
   have c9:w3.cell? ⟨b,9,none⟩=some (.string r):=B3.cell rfl
   have f9:=B3.free 9
   have HB3:=Lib.hid B3;clear B3
   go_wp2_with fail
   go_ret
   have hfin:=Eu m s.data.toList k (by rw[←HL.out];exact hk) (by rw[←HL.out];have:=Ht.out;omega)
   rw[←HL.out]at hfin
   refine⟨rfl,⟨t,tt.cast hfin.2.symm, ?_⟩,(hkep.below' hb3 (Nat.le_refl _)).setCell _ _⟩
   refine(HB3.out.set 9 _).ext ?_
   rw[hfin.1,←Hst.out,List.length_append,←Hn.out]
   rw[show n+s.data.toList.length=N by rw[HN.out];rfl]
   rfl
theorem Gg (m:List UInt8):(bE (m++jN m.length)).text=de m:=rfl
theorem Ew (w:World):Sem.run Tryz.prog (zeroValue 418) w= .ok (.agg (.bool false::(S8.zero.cells++[.string ⟨#[]⟩, .int .i64 0]):List Value).toArray) w:=by kernel_rfl
theorem Ag (st:S8) (r:ByteArray) (n:Nat):∀v∈hcells st r n,v.oneCell'=true:=by
 intro v hv
 simp only[hcells,S8.cells,List.mem_cons,List.not_mem_nil,or_false,List.cons_append,List.nil_append]at hv
 rcases hv with rfl|rfl|rfl|rfl|rfl|rfl|rfl|rfl|rfl|rfl|rfl<;>rfl
theorem sk (b:Nat) (m:List UInt8) (w:World) (hb:kC w b m) (hn:m.length≤536870912):
  Calls Tryz.prog 323 #[.pointer (some ⟨b,0,none⟩)] w fun e w'=>∃r,e= .returned (.string r)∧ak r (de m)∧Below w.heap.size w w':=by
 obtain⟨r,tr,hblk⟩:=hb
 obtain⟨n,Hn⟩:∃n,Hid (n=m.length):=⟨_,rfl⟩
 rw[←Hn.out]at hblk hn
 have c10:w.cell? ⟨b,10,none⟩=some (.int .i64 n):=hblk.cell rfl
 have hbs:b<w.heap.size:=hblk.lt
 have HB:=Lib.hid hblk;clear hblk
 go_enter Tryz.func323,Tryz.ntmps323
 go_wp2_with fail
 refine(qA b (bE m) r n _ HB.out).mono ?_
 rintro e w1 ⟨rfl,rfl⟩
 go_wp2_with (first
  |((with_reducible refine au 418 (.tmp 10) b (hcells (bE m) r n) 418 _ HB.out Tryz.underlying418 rfl (oY _ _ _) ?hgd ?ho ?hx ?_);(case hgd|ho|hx=>rfl))
  |((with_reducible refine af 418 _ Ew (some 3) ?hgd ?ho ?hd ?_);(case hgd|ho|hd=>rfl);(intro c w2 l2 B2 e2 z2);(have c10':w2.cell? ⟨b,10,none⟩=some (.int .i64 n):=(HB.out.below e2 (by omega)).cell rfl))
  |((with_reducible refine ae 418 (.tmp 3) (.tmp 11) c _ (hcells (bE m) r n) 418 B2 ?hl (oY _ _ _) (Ag _ _ _) ?hgd ?ho ?hx ?hy ?_);(case hgd|ho|hx|hy|hl=>rfl);(intro w3 B3 o3);(have c10'':w3.cell? ⟨b,10,none⟩=some (.int .i64 n):=(o3.blk (HB.out.below e2 (by omega)) (by omega)).cell rfl)))
 refine(pad_walk n _ (by omega)).mono ?_
 rintro e w4 ⟨p,rfl,tp,hb4⟩
 have q3:=Lib.hid o3.size
 have H3:kC w4 c m:=⟨r,tr,by rw[←Hn.out];exact B3.below hb4 (by have:=q3.out;omega)⟩
 have hp:p.size≤72:=by rw[tp.size,xl];omega
 clear c10' c10'' c10 B3 B2
 go_wp2_with fail
 refine(put_walk c m p w4 H3 (by rw[←Hn.out];omega)).mono ?_
 rintro e w5 ⟨rfl,⟨r5,t5,B5⟩,k5⟩
 rw[tp]at B5
 have B5':=Lib.hid B5
 have rng:w5.rangeAt c 1 (bE (m++jN n)).cells:=by
  have:=B5.rangeMid (x:=[.bool true]) (y:=(bE (m++jN n)).cells) (z:=[.string r5, .int .i64 (((m++jN n).length:Nat):Int)]) (off:=1) rfl
  exact this
 clear B5
 have RG:=Lib.hid rng;clear rng
 have HK:=Lib.hid k5;clear k5
 go_wp2_with ((with_reducible refine wpList_load_mid ?hgd 415 (.tmp 22) ?ho c 1 ?hx (bE (m++jN n)).cells _ RG.out Tryz.underlying415 rfl (lg _) ?_);(case hgd|ho|hx=>rfl))
 refine(CM _ (CP _) _).mono ?_
 rintro e w6 ⟨r6,rfl,t6,hb6⟩
 go_wp2_with fail
 go_ret
 refine⟨r6,rfl,t6.cast (by rw[Hn.out];exact Gg m), ?_⟩
 have hb3:Below w.heap.size w w3:=o3.below (e2.mono l2) l2
 have h43:=hb4.size
 have:=q3.out
 have hb5:=HK.out.below (hb3.trans (hb4.mono (by omega))) l2 (by omega)
 exact hb5.trans (hb6.mono (by have:=HK.out.size;omega))
def nz (w:World) (v:Value) (xs:List ByteArray):Prop:=
 (v= .slice none 0 0∧xs=[])∨
 ∃g o c,v= .slice (some ⟨g,o,none⟩) xs.length c∧g<w.heap.size∧∀(j:Nat) (x:ByteArray),xs[j]?=some x→w.cell? ⟨g,o+j,none⟩=some (.string x)
theorem nz.new (w:World) (xs:List ByteArray) (c:Nat) (t:TypeId):nz (w.alloc (.cells (xs.map Value.string).toArray t)) (.slice (some ⟨w.heap.size,0,none⟩) xs.length c) xs:=by
 refine .inr ⟨_,_,_,rfl,by simp,fun j x hx=> ?_⟩
 rw[Nat.zero_add]
 exact(ac.new w (xs.map Value.string) t).cell (by simp[hx])
theorem nz.below {w w':World} {v:Value} {xs:List ByteArray} (h:nz w v xs) {B:Nat} (hb:Below B w w') (hB:w.heap.size≤B):nz w' v xs:=by
 rcases h with h|⟨g,o,c,h1,h2,h3⟩
 ·exact .inl h
 ·exact .inr ⟨g,o,c,h1,by have:=hb.size;omega,fun j x hx=>by rw[hb.cell (by show g<B;omega)];exact h3 j x hx⟩
def cX (xs:List ByteArray):List UInt8:=xs.flatMap fun x=>x.data.toList
theorem CQ (xs:List ByteArray) (k:Nat) (x:ByteArray) (h:xs[k]?=some x):cX (xs.take (k+1))=cX (xs.take k)++x.data.toList:=by
 obtain⟨hk,rfl⟩:=List.getElem?_eq_some_iff.1 h
 unfold cX
 rw[List.take_succ_eq_append_getElem hk,List.flatMap_append]
 simp
theorem vy (xs:List ByteArray) (k:Nat):(cX (xs.take k)).length≤(cX xs).length:=by
 have:cX xs=cX (xs.take k)++cX (xs.drop k):=by
  unfold cX;rw[←List.flatMap_append,List.take_append_drop]
 rw[this,List.length_append];omega
theorem yQ (g o c:Nat) (xs:List ByteArray) (w:World) (hg:g<w.heap.size) (hc:∀(j:Nat) (x:ByteArray),xs[j]?=some x→w.cell? ⟨g,o+j,none⟩=some (.string x))
  (hn:(cX xs).length≤536870912) (hx:xs.length≤1073741824):
  Calls Tryz.prog 252 #[.slice (some ⟨g,o,none⟩) xs.length c] w fun e w'=>∃r,e= .returned (.string r)∧ak r (de (cX xs))∧Below w.heap.size w w':=by
 have Hc:=Lib.hid hc;clear hc
 go_enter Tryz.func252,Tryz.ntmps252
 go_wp2_with fail
 refine(vu _).mono ?_
 rintro e w1 ⟨b,rfl,l1,B1,hb1,z1⟩
 have h0:Hid (kC w1 b []):=⟨⟨#[]⟩,rfl,B1⟩
 clear B1
 go_wp2_with fail
 go_loopw [9] (fun i wr=>∃k:Nat,k≤xs.length∧i= .int .i64 k∧kC wr b (cX (xs.take k))∧Below w.heap.size w wr) (fun i _=>xs.length-(intOf i).toNat)
 case atStart=>exact⟨0,by omega,rfl,h0.out,hb1⟩
 case round=>
  clear h0 hb1 z1
  obtain⟨k,hk,rfl,hH,hbel⟩:=hrel
  have HH:=Lib.hid hH;clear hH
  by_cases hlt:k<xs.length
  ·have hlt':(k:Int)<xs.length:=by omega
   obtain⟨x,hxk⟩:∃x,xs[k]?=some x:=⟨_,List.getElem?_eq_getElem hlt⟩
   have ck:wr.cell? ⟨g,o+k,none⟩=some (.string x):=by
    rw[hbel.cell (by show g<w.heap.size;exact hg)];exact Hc.out k x hxk
   have hsn:=CQ xs k x hxk
   have hle:=vy xs (k+1)
   rw[hsn,List.length_append]at hle
   have HX:=Lib.hid hsn;clear hsn hxk
   have hle':(cX (xs.take k)).length+x.size≤(cX xs).length:=hle
   clear hle
   go_wp2_with fail
   refine(put_walk b _ x _ HH.out (by omega)).mono ?_
   rintro e w2 ⟨rfl,hh2,k2⟩
   have H2:=Lib.hid hh2;clear hh2
   have K2:=Lib.hid k2;clear k2
   go_wp2_with fail
   go_roundw
   case rel=>exact⟨k+1,by omega,by go_num,by rw[HX.out];exact H2.out,K2.out.below hbel l1 hbel.size⟩
   case measure=>simp[intOf];omega
  ·obtain rfl:k=xs.length:=by omega
   have hall:Hid (cX (xs.take xs.length)=cX xs):=by show _= _;rw[List.take_length]
   go_wp2_with fail
   refine(sk b _ wr HH.out (by rw[hall.out];omega)).mono ?_
   rintro e w2 ⟨r,rfl,tr,hb2⟩
   go_wp2_with fail
   go_ret
   exact⟨r,rfl,tr.cast (by rw[hall.out]),hbel.trans (hb2.mono hbel.size)⟩
end Go.Proofs.YtngiibgdgenidaaGreat
