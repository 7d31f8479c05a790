/- Walks of package octet. Walks of the small functions of package sha: turning a number, reading one, the constants. Walk of sha.words: a block's sixty-four words. Walks of sha.constants and of the method turned: what a block does to the state. -/
import Derived.Test.YtadooplpfhdhcaaGreatProg
import Derived.Test.YtadooplpfhdhcaaGreatQ2
import Derived.ProofKit
import Derived.Handy
import Derived.Deep.QuietTactic
import Derived.BigQuiet
import Derived.Lib.Hide
import Derived.Outline
import Derived.StillTailTactics
import Derived.Deep.WholeRow
import Derived.Deep.RegionWith
import Derived.Deep.RegionHeld3
import Derived.Deep.RegionLaw
set_option linter.unusedSimpArgs false
set_option linter.unusedVariables false
set_option maxRecDepth 100000
set_option maxHeartbeats 4000000
namespace Go.Proofs.YtadooplpfhdhcaaGreat
open Go Go.RowKit
open Go.Lib (hid)
open Go.Proofs.Tryz
theorem infoByte:(prog.info? 5).map (fun i=>(i.zero,i.size,i.bytes))=some (some (.int .u8 0),1,1):=by kernel_rfl
theorem xT (k n:Nat):beBytes (k+1) n=UInt8.ofNat (n/256^k % 256)::beBytes k n:=by
 induction k generalizing n with
 |zero=>simp[beBytes]
 |succ k ih=>
  rw[show beBytes (k+1+1) n=beBytes (k+1) (n/256)++[UInt8.ofNat (n % 256)]from rfl,ih];simp only[List.cons_append,Nat.div_div_eq_div_mul];rw[show 256*256^k=256^(k+1) by rw[Nat.pow_succ];omega]
  rfl
def kQ (n wd k:Nat):List UInt8:=List.replicate (wd-k) 0++beBytes k n
theorem qn (n wd k:Nat) (h:k≤wd):(kQ n wd k).length=wd:=by simp[kQ,beBytes_length];omega
theorem FV (n a k:Nat) (h:k<a):(kQ n a k).set (a-1-k) (UInt8.ofNat (n/256^k % 256))=kQ n a (k+1):=by
 unfold kQ;rw[show List.replicate (a-k) (0:UInt8)=List.replicate (a-(k+1)) 0++[0] by rw[←List.replicate_succ'];congr 1;omega];rw[List.append_assoc,List.set_append_right _ _ (by simp;omega),xT];simp[show a-1-k-(a-(k+1))=0 by omega]
theorem BJ (n a:Nat) (d:a≤8) (hn:n<9223372036854775808) (c:a<8→n<256^a):(n:Int)/2^(8*a)≤0:=by
 have h:n<2^(8*a):=by
  by_cases b:a<8
  ·have:=c b
   rwa[show(256:Nat)=2^8 from rfl,←Nat.pow_mul]at this
  ·obtain rfl:a=8:=by omega
   exact Nat.lt_of_lt_of_le hn (by decide)
 have:n/2^(8*a)=0:=Nat.div_eq_of_lt h
 have e:(n:Int)/2^(8*a)=((n/2^(8*a):Nat):Int):=by simp
 rw[e,this];exact Int.le_refl _
theorem ID (n k:Nat):(n:Int)/2^(8*k) % 256=(((UInt8.ofNat (n/256^k % 256)).toNat:Nat):Int):=by
 have e:(n:Int)/2^(8*k) % 256=((n/2^(8*k) % 256:Nat):Int):=by simp
 rw[e,Nat.pow_mul];simp
theorem JW (n wd:Nat) (w:World) (y:1≤wd) (o:wd≤8) (hn:n<9223372036854775808) (j:wd<8→n<256^wd):
  Calls prog 143 #[.int .i64 n, .int .i64 wd] w fun e w'=>e= .returned (.tuple #[str (beBytes wd n), .int .i64 0])∧Below w.heap.size w w':=by
 have u:(1:Int)≤wd:=by omega
 have v:(wd:Int)≤8:=by omega
 have x:(n:Int)≤9223372036854775807:=by omega
 have A:=BJ n wd o hn j;clear j hn
 by_cases z:(wd:Int)<8
 all_goals
  go_enter func143,ntmps143
  go_wp2_with (first
   |((with_reducible refine rl 147 5 (.tmp 29) (.tmp 29) wd (some 30) (wd:Int) underlying147 infoByte (by omega) rfl ?hgd ?ho ?hd ?hx ?hy ?_);(case hgd|ho|hd|hx|hy=>rfl);(intro g B s h d t)))
  have c:=hid h;clear h;go_loopw [32] (fun i wr=>∃k:Nat,k≤wd∧i= .int .i64 k∧ac wr g (bytesV (kQ n wd k)) 5∧Below w.heap.size w wr) (fun i _=>wd-(intOf i).toNat)
  case atStart=>exact⟨0,by omega,rfl,c.ext (by simp[kQ,beBytes]),d.mono s⟩
  case round=>
   clear c d t;obtain⟨k,r,rfl,a,b⟩:=hrel
   by_cases f:k<wd
   ·have l:(k:Int)<wd:=by omega
    have q:=a.cell (eB _ (wd-1-k) (by rw[qn _ _ _ r];omega));have p:=a.free (wd-1-k);have c:=hid a;clear a;go_wp2_with fail;go_roundw
    case rel=>
     refine⟨k+1,by omega,by go_num, ?_,b.setCell (by show w.heap.size≤g;omega) _⟩
     refine(c.set _ _).ext ?_
     rw[←FV _ _ _ f,←cU]
     congr 2
     exact ID n k
    case measure=>simp[intOf];omega
   ·obtain rfl:k=wd:=by omega
    have c:=hid a;clear a
    go_wp2_with (first
     |((with_reducible refine dw 147 9 5 (.tmp 47) (kQ n k k) g 0 k k (some 48) underlying147 underlying5 underlying9 c.out.range (by rw[qn _ _ _ (Nat.le_refl _)]) ?hgd ?ho ?hd ?hx ?_);(case hgd|ho|hd|hx=>rfl)))
    go_ret2;refine⟨?_,b⟩;have m:kQ n k k=beBytes k n:=by simp[kQ]
    rw[←m]
    rfl
theorem sF (n c:Nat) (w:World) (d:1≤c) (f:c≤8) (hn:n<9223372036854775808) (g:c<8→n<256^c):
  Calls prog 143 #[.int .i64 n, .int .i64 c] w fun e w'=>∃r,e= .returned (.tuple #[.string r, .int .i64 0])∧ah r (beBytes c n)∧Below w.heap.size w w':=
 (JW n c w d f hn g).mono fun _ _ ⟨a,b⟩=>⟨_,a,ah.mk _,b⟩
def S8.val (s:S8):Value:=
 .agg #[.int .u32 s.a, .int .u32 s.b, .int .u32 s.c, .int .u32 s.d, .int .u32 s.e, .int .u32 s.f, .int .u32 s.g, .int .u32 s.h]
theorem IE (x k:Nat) (e:x<4294967296) (g:0<k) (h:k<32):
  bits BinOp.or IntKind.u32 ((x:Int)*2^(32-k) % 4294967296) ((x:Int)/2^k)=((dQ x k:Nat):Int):=by
 have c:(x:Int)*2^(32-k) % 4294967296=((x*2^(32-k) % 4294967296:Nat):Int):=by simp
 have d:(x:Int)/2^k=((x/2^k:Nat):Int):=by simp
 have f:x*2^(32-k) % 4294967296<4294967296:=Nat.mod_lt _ (by decide);have b:x/2^k<4294967296:=Nat.lt_of_le_of_lt (Nat.div_le_self _ _) e;rw[c,d,u32_or_nat _ _ f b];unfold dQ;rw[Nat.shiftRight_eq_div_pow,Nat.shiftLeft_eq]
 congr 1
 apply Nat.eq_of_testBit_eq
 intro i;rw[show(4294967296:Nat)=2^32 from rfl,Nat.testBit_or,Nat.testBit_mod_two_pow,Nat.testBit_mod_two_pow,Nat.testBit_or]
 by_cases a:i<32
 ·simp[a,Bool.or_comm]
 ·have:(x/2^k).testBit i=false:=
   Nat.testBit_lt_two_pow (Nat.lt_of_lt_of_le b (Nat.pow_le_pow_right (n:=2) (by omega) (by omega:32≤i)))
  simp[a,this]
theorem FW (k:Int) (b:0<k) (c:k<32):bits BinOp.and IntKind.u64 (IntKind.u64.wrap (-k)) 31=32-k:=by
 have a:IntKind.u64.wrap (-k)=((18446744073709551616-k.toNat:Nat):Int):=by
  rw[IntKind.wrap_u64];omega
 have:=u64_and_nat (18446744073709551616-k.toNat) 31 (by omega) (by decide)
 rw[a];refine this.trans ?_;rw[show(31:Nat)=2^5-1 from rfl,Nat.and_two_pow_sub_one_eq_mod];omega
theorem jM (x:Nat) (k:Int) (w:World) (f:x<4294967296) (b:0<k) (c:k<32):
  Calls prog 298 #[.int .u32 x, .int .i64 (-k)] w fun e w'=>e= .returned (.int .u32 ((dQ x k.toNat:Nat):Int))∧w=w':=by
 have hb:=FW k b c;have g:(32:Int)-k≤31:=by omega
 have d:(0:Int)≤32-k:=by omega
 have hp:(x:Int)<4294967296:=by omega
 have a:Hid (bits BinOp.or IntKind.u32 ((x:Int)*2^(32-k).toNat % 4294967296) ((x:Int)/2^(32-(32-k)).toNat)=((dQ x k.toNat:Nat):Int)):=by
  have:=IE x k.toNat f (by omega) (by omega)
  rw[show(32-k).toNat=32-k.toNat by omega,show(32-(32-k)).toNat=k.toNat by omega];exact this
 go_enter func298,ntmps298;go_wp2;go_ret;refine⟨?_,rfl⟩
 show Ending.returned (Value.int IntKind.u32 _)= _
 rw[←a.out]
theorem wP (a b c:Nat) (d:a<4294967296) (hb:b<4294967296) (hc:c<4294967296):
  bits BinOp.xor IntKind.u32 (bits BinOp.xor IntKind.u32 (a:Int) (b:Int)) (c:Int)=((a^^^b^^^c:Nat):Int):=by
 rw[u32_xor_nat _ _ d hb,u32_xor_nat _ _ (y9 d hb) hc]
theorem wQ (x:Nat) (a b c:Int) (w:World) (h:x<4294967296) (i:0<a) (d:a<32) (hb:0<b) (f:b<32) (hc:0<c) (g:c<32):
  Calls prog 273 #[.int .u32 x, .int .i64 a, .int .i64 b, .int .i64 c, .bool false] w fun e w'=>e= .returned (.int .u32 ((dQ x a.toNat^^^dQ x b.toNat^^^dQ x c.toNat:Nat):Int))∧w=w':=by
 have j:Hid _:=wP (dQ x a.toNat) (dQ x b.toNat) (dQ x c.toNat) (nU _ _) (nU _ _) (nU _ _);go_enter func273,ntmps273;go_wp2_with fail
 refine(jM x c _ h hc g).mono ?_;rintro e w' ⟨rfl,rfl⟩
 go_wp2_with fail
 refine(jM x a _ h i d).mono ?_;rintro e w' ⟨rfl,rfl⟩
 go_wp2_with fail
 refine(jM x b _ h hb f).mono ?_;rintro e w' ⟨rfl,rfl⟩
 go_wp2_with fail;go_ret;refine⟨?_,rfl⟩
 show Ending.returned (Value.int IntKind.u32 _)= _
 rw[←j.out]
theorem rM (x:Nat) (a b c:Int) (w:World) (d:x<4294967296) (i:0<a) (f:a<32) (hb:0<b) (g:b<32) (hc:0<c) (h:c<32):
  Calls prog 273 #[.int .u32 x, .int .i64 a, .int .i64 b, .int .i64 c, .bool true] w fun e w'=>e= .returned (.int .u32 ((dQ x a.toNat^^^dQ x b.toNat^^^x/2^c.toNat:Nat):Int))∧w=w':=by
 have j:Hid (bits BinOp.xor IntKind.u32 (bits BinOp.xor IntKind.u32 ((dQ x a.toNat:Nat):Int) ((dQ x b.toNat:Nat):Int)) ((x:Int)/2^c.toNat)=((dQ x a.toNat^^^dQ x b.toNat^^^x/2^c.toNat:Nat):Int)):=by
  have:=wP (dQ x a.toNat) (dQ x b.toNat) (x/2^c.toNat) (nU _ _) (nU _ _) (Nat.lt_of_le_of_lt (Nat.div_le_self _ _) d)
  rw[show(x:Int)/2^c.toNat=((x/2^c.toNat:Nat):Int) by simp];exact this
 go_enter func273,ntmps273;go_wp2_with fail
 refine(jM x c _ d hc h).mono ?_;rintro e w' ⟨rfl,rfl⟩
 go_wp2_with fail
 refine(jM x a _ d i f).mono ?_;rintro e w' ⟨rfl,rfl⟩
 go_wp2_with fail
 refine(jM x b _ d hb g).mono ?_;rintro e w' ⟨rfl,rfl⟩
 go_wp2_with fail;go_ret;refine⟨?_,rfl⟩
 show Ending.returned (Value.int IntKind.u32 _)= _
 rw[←j.out]
theorem FX (x:Nat) (w:World) (a:x<4294967296):
  Calls prog 273 #[.int .u32 x, .int .i64 6, .int .i64 11, .int .i64 25, .bool false] w fun e w'=>e= .returned (.int .u32 (LN x:Nat))∧w=w':=
 wQ x 6 11 25 w a (by decide) (by decide) (by decide) (by decide) (by decide) (by decide)
theorem FY (x:Nat) (w:World) (a:x<4294967296):
  Calls prog 273 #[.int .u32 x, .int .i64 2, .int .i64 13, .int .i64 22, .bool false] w fun e w'=>e= .returned (.int .u32 (LM x:Nat))∧w=w':=
 wQ x 2 13 22 w a (by decide) (by decide) (by decide) (by decide) (by decide) (by decide)
theorem FZ (x:Nat) (w:World) (a:x<4294967296):
  Calls prog 273 #[.int .u32 x, .int .i64 7, .int .i64 18, .int .i64 3, .bool true] w fun e w'=>e= .returned (.int .u32 (Jh x:Nat))∧w=w':=
 rM x 7 18 3 w a (by decide) (by decide) (by decide) (by decide) (by decide) (by decide)
theorem F2 (x:Nat) (w:World) (a:x<4294967296):
  Calls prog 273 #[.int .u32 x, .int .i64 17, .int .i64 19, .int .i64 10, .bool true] w fun e w'=>e= .returned (.int .u32 (Ji x:Nat))∧w=w':=
 rM x 17 19 10 w a (by decide) (by decide) (by decide) (by decide) (by decide) (by decide)
theorem mZ (s:ByteArray) (i:Nat) (h:i<s.size):s.data.toList.getD i 0=s[i]:=by
 have a:i<s.data.toList.length:=by simpa using h
 simp[List.getD_eq_getElem?_getD,List.getElem?_eq_getElem a]
 rfl
theorem D3 (a b c d:Nat) (l:a<256) (hb:b<256) (hc:c<256) (hd:d<256):
  bits BinOp.or IntKind.u32 (bits BinOp.or IntKind.u32 (bits BinOp.or IntKind.u32 ((a:Int) % 4294967296*16777216 % 4294967296) ((b:Int) % 4294967296*65536 % 4294967296)) ((c:Int) % 4294967296*256 % 4294967296)) ((d:Int) % 4294967296)
   =((a*16777216+b*65536+c*256+d:Nat):Int):=by
 have e:(a:Int) % 4294967296*16777216 % 4294967296=((a*16777216:Nat):Int):=by omega
 have f:(b:Int) % 4294967296*65536 % 4294967296=((b*65536:Nat):Int):=by omega
 have g:(c:Int) % 4294967296*256 % 4294967296=((c*256:Nat):Int):=by omega
 have h:(d:Int) % 4294967296=(d:Int):=by omega
 have i:=nat_join 24 (a*16777216) (b*65536) (by omega) (by omega);have j:=nat_join 16 (a*16777216+b*65536) (c*256) (by omega) (by omega);have k:=nat_join 8 (a*16777216+b*65536+c*256) d (by omega) (by omega);rw[e,f,g,h,u32_or_nat _ _ (by omega) (by omega),i,u32_or_nat _ _ (by omega) (by omega),j,u32_or_nat _ _ (by omega) (by omega),k]
theorem BK (s:ByteArray) (w:World) (h:4≤s.size):
  Calls prog 297 #[.string s] w fun e k=>e= .returned (.int .u32 (be32 s.data.toList 0:Nat))∧∃n,k=w.drewN n:=by
 have a:0<s.size:=by omega
 have b:1<s.size:=by omega
 have d:2<s.size:=by omega
 have g:3<s.size:=by omega
 have c:(1:Int)<s.size:=by omega
 have f:(2:Int)<s.size:=by omega
 have i:(3:Int)<s.size:=by omega
 have j:Hid _:=D3 _ _ _ _ s[0].toNat_lt s[1].toNat_lt s[2].toNat_lt s[3].toNat_lt
 have hb:Hid (be32 s.data.toList 0=s[0].toNat*16777216+s[1].toNat*65536+s[2].toNat*256+s[3].toNat):=by
  show be32 s.data.toList 0= _
  unfold be32;rw[mZ s _ a,mZ s _ b,mZ s _ d,mZ s _ g]
 go_enter func297,ntmps297;go_wp2;go_quiet (fail);go_wp2;go_ret;refine⟨?_,_,rfl⟩
 show Ending.returned (Value.int IntKind.u32 _)= _
 rw[hb.out,←j.out]
theorem D4 (w:World):
  Calls prog 221 #[] w fun e w'=>e= .returned S8.first.val∧Below w.heap.size w w':=by
 go_enter func221,ntmps221;go_wp2;exact bodyPost_ret (v:=S8.first.val) (by simp[results,results221,go_sem];rfl) rfl ⟨rfl,((Below.refl _ _).alloc (Nat.le_refl _) _)⟩
def bE (l:List Nat):List Value:=l.map (fun n=> .int .u32 ((n:Nat):Int))
theorem eP (l:List Nat):(bE l).length=l.length:=by simp[bE]
theorem lO (l:List Nat):∀v∈bE l,v.oneCell'=true:=by
 intro v a;obtain⟨_,_,rfl⟩:=List.mem_map.1 a
 rfl
theorem gW (l:List Nat) (i:Nat) (a:i<l.length):(bE l)[i]?=some (.int .u32 ((l.getD i 0:Nat):Int)):=by
 simp[bE,a]
def gq (blk:List UInt8) (k:Nat):List Value:=bE (bB blk k++List.replicate (64-k) 0)
theorem m4 (a:List UInt8) (k i:Nat) (b:i<k):(gq a k)[i]?=some (.int .u32 (((bB a k).getD i 0:Nat):Int)):=by
 have hl:=ek a k;simp[gq,bE,List.getElem?_append,hl,b]
theorem D5 (a:List UInt8) (k:Nat) (b:k<64):(gq a k)[k]?=some (.int .u32 0):=by
 have hl:=ek a k;unfold gq bE;rw[show List.replicate (64-k) 0=0::List.replicate (64-(k+1)) 0 by rw[←List.replicate_succ];congr 1;omega];simp[hl]
theorem uj (a:List UInt8) (k:Nat) (b:k<64):(gq a k).set k (.int .u32 ((g9 a (bB a k):Nat):Int))=gq a (k+1):=by
 have hl:=ek a k;unfold gq bE;rw[show List.replicate (64-k) 0=0::List.replicate (64-(k+1)) 0 by rw[←List.replicate_succ];congr 1;omega];simp only[bB,List.map_append,List.map_cons,List.map_nil,List.append_assoc];rw[List.set_append_right _ _ (by simp[hl])];simp[hl]
theorem BN (a:List UInt8):gq a 0=List.replicate 64 (.int .u32 0):=by simp[gq,bE,bB]
theorem D6 (a:List UInt8):gq a 64=bE (bB a 64):=by simp[gq]
theorem BO (l:List UInt8) (k:Nat) (h:k<16):g9 l (bB l k)=be32 l k:=by
 unfold g9;rw[ek,if_pos h]
theorem BP (l:List UInt8) (k:Nat) (h:¬k<16):g9 l (bB l k)=
  ((bB l k).getD (k-16) 0+Jh ((bB l k).getD (k-15) 0)+(bB l k).getD (k-7) 0+Ji ((bB l k).getD (k-2) 0)) % 4294967296:=by
 unfold g9;rw[ek,if_neg h]
theorem extract_toList (s:ByteArray) (a b:Nat):(s.extract a b).data.toList=(s.data.toList.take b).drop a:=by
 rw[ByteArray.data_extract,Array.toList_extract];simp[List.extract,List.drop_take]
theorem F3 (l:List UInt8) (k:Nat):be32 (l.drop (4*k)) 0=be32 l k:=by
 simp[be32,List.getElem?_drop]
theorem zC (s:ByteArray) (k n:Nat) (hn:s.size≤n):be32 (s.extract (4*k) n).data.toList 0=be32 s.data.toList k:=by
 rw[extract_toList,List.take_of_length_le (by simpa using hn),F3]
theorem words_walk (s:ByteArray) (w:World) (h:s.size=64):
  Calls prog 271 #[.string s] w fun e w'=>e= .returned (.agg (bE (bB s.data.toList 64)).toArray)∧Below w.heap.size w w':=by
 have U:s.size≤64:=by omega
 have V:64≤s.size:=by omega
 clear h;have I:Hid ((prog.info? 322).map (·.size)=some 64):=by show _= _;kernel_rfl
 go_enter func271,ntmps271;go_wp2_with fail;go_loopw [5] (fun i wr=>∃k:Nat,k≤64∧i= .int .i64 k∧ac wr w.heap.size (List.replicate 64 (.int .u32 0)) 322∧ac wr (w.heap.size+1) (gq s.data.toList k) 322∧Below w.heap.size w wr∧w.heap.size+1<wr.heap.size) (fun i _=>64-(intOf i).toNat)
 case atStart=>
  refine⟨0,by omega,rfl,(ac.new w (List.replicate 64 (.int .u32 0)) _).alloc _, ?_,((Below.refl _ _).alloc (Nat.le_refl _) _).alloc (by simp) _,by simp⟩;rw[BN]
  have:=ac.new (w.alloc (.cells (List.replicate 64 (.int .u32 0)).toArray 322)) (List.replicate 64 (.int .u32 0)) 322
  simpa using this
 case round=>
  obtain⟨k,Y,rfl,c,b,f,A⟩:=hrel
  by_cases p:k<64
  ·have T:=b.free k
   have S:=b.cell (D5 s.data.toList k p);have O:(k:Int)<64:=by omega
   by_cases x:k<16
   ·have t:=hid b;clear b
    have q:=hid c;clear c;go_wp2_with fail
    refine(BK _ _ (by simp;omega)).mono ?_
    rintro e w' ⟨rfl,n,rfl⟩;rw[zC s k _ (Nat.le_refl _)];go_wp2_with fail;go_roundw
    case rel=>
     refine⟨k+1,by omega,by go_num, ?_, ?_, ?_, ?_⟩
     ·exact(q.drewN n).set_other (by simp) _
     ·refine((t.drewN n).set k _).ext ?_
      rw[←uj _ _ p,BO _ _ x]
     ·exact((Below.drewN f n).setCell (by simp) _)
     ·simpa using A
    case measure=>simp[intOf];omega
   ·obtain⟨i16,m⟩:∃i,i=k-16:=⟨_,rfl⟩
    obtain⟨i15,l⟩:∃i,i=k-15:=⟨_,rfl⟩;obtain⟨i7,z⟩:∃i,i=k-7:=⟨_,rfl⟩;obtain⟨i2,y⟩:∃i,i=k-2:=⟨_,rfl⟩;obtain⟨F,r⟩:∃a,Hid (a=(bB s.data.toList k).getD i16 0):=⟨_,rfl⟩;obtain⟨u,o⟩:∃a,Hid (a=(bB s.data.toList k).getD i15 0):=⟨_,rfl⟩;obtain⟨P,M⟩:∃a,Hid (a=(bB s.data.toList k).getD i7 0):=⟨_,rfl⟩;obtain⟨N,E⟩:∃a,Hid (a=(bB s.data.toList k).getD i2 0):=⟨_,rfl⟩;have C:=b.cell (m4 s.data.toList k i16 (by omega));rw[←r.out]at C;have B:=b.cell (m4 s.data.toList k i15 (by omega));rw[←o.out]at B;have K:=b.cell (m4 s.data.toList k i7 (by omega));rw[←M.out]at K;have J:=b.cell (m4 s.data.toList k i2 (by omega));rw[←E.out]at J;have D:u<4294967296:=by rw[o.out];exact tC _ _ _
    have L:N<4294967296:=by rw[E.out];exact tC _ _ _
    have t:=hid b;clear b;have q:=hid c;clear c
    have g:Hid ((((F:Nat):Int)+((Jh u:Nat):Int)+((P:Nat):Int)+((Ji N:Nat):Int)) % 4294967296=((g9 s.data.toList (bB s.data.toList k):Nat):Int)):=by
     show _= _
     rw[BP _ _ x,r.out,o.out,M.out,E.out,m,l,z,y];simp
    have H:IntKind.i64.wrap ((k:Int)-16)=i16:=by rw[IntWalk.i64_in _ (by omega)];omega
    have G:IntKind.i64.wrap ((k:Int)-15)=i15:=by rw[IntWalk.i64_in _ (by omega)];omega
    have R:IntKind.i64.wrap ((k:Int)-7)=i7:=by rw[IntWalk.i64_in _ (by omega)];omega
    have Q:IntKind.i64.wrap ((k:Int)-2)=i2:=by rw[IntWalk.i64_in _ (by omega)];omega
    have X:(i16:Int)<64:=by omega
    have W:(i15:Int)<64:=by omega
    have l7:(i7:Int)<64:=by omega
    have Z:(i2:Int)<64:=by omega
    clear m l z y;go_wp2_with fail;refine wp_region_still_tail 23 (by kernel_rfl) (by kernel_rfl) ?_;simp only[List.take_succ_cons,List.take_zero,List.drop_succ_cons,List.drop_zero]
    iterate 9 still_step
    still_call (eo (FZ _ _ D))
    iterate 10 still_step
    still_call (eo (F2 _ _ L))
    iterate 2 still_step
    refine wpStill_nil ?_;clear H G R Q;go_wp2_with fail;go_roundw
    case rel=>
     rw[g.out];refine⟨k+1,by omega,by go_num, ?_, ?_, ?_, ?_⟩
     ·exact(q.set_other (by simp) _).drew
     ·exact((t.set k _).ext (uj _ _ p)).drew
     ·exact(f.setCell (by simp) _).drew
     ·simpa using A
    case measure=>simp[intOf];omega
  ·obtain rfl:k=64:=by omega
   have t:=hid b;clear b;have q:=hid c;clear c;have g:Hid (gq s.data.toList 64=bE (bB s.data.toList 64)):=D6 _;have d:Hid ((bE (bB s.data.toList 64)).length=64):=by show _= _;rw[eP,ek]
   have j:Hid ((bE (bB s.data.toList 64)).length=(List.replicate 64 (Value.int .u32 0)).length):=by show _= _;rw[d.out];simp
   go_wp2_with (first
    |((with_reducible refine aj 322 (.tmp 3) (w.heap.size+1) (bE (bB s.data.toList 64)) _ _ (t.out.ext g.out) underlying322 rfl (I.out.trans (congrArg some d.out.symm)) ?hgd ?ho ?hx ?_);(case hgd|ho|hx=>rfl))
    |((with_reducible refine jE 322 (.tmp 2) (.tmp 41) w.heap.size _ (bE (bB s.data.toList 64)) _ q.out j.out (I.out.trans (congrArg some d.out.symm)) (lO _) ?hgd ?ho ?hx ?hy ?_);(case hgd|ho|hx|hy=>rfl))
    |((with_reducible refine bodyPost_ret (v:= .agg (bE (bB s.data.toList 64)).toArray) ?hr ?hd ?hR)
      (case hd=>rfl)
      (case hR=>exact⟨rfl,Below.setCells (Nat.le_refl _) _ _ f⟩)
      (case hr=>exact results_cell_row rfl _ _ w.heap.size _ _ _ _ rfl (q.setAll (bE (bB s.data.toList 64)) j.out) underlying322 rfl (by rw[List.size_toArray,d.out];exact I.out))))
def S8.cells (s:S8):List Value:=[.int .u32 s.a, .int .u32 s.b, .int .u32 s.c, .int .u32 s.d, .int .u32 s.e, .int .u32 s.f, .int .u32 s.g, .int .u32 s.h]
theorem S8.cells_one (s:S8):∀v∈s.cells,v.oneCell'=true:=by
 intro v a;simp only[S8.cells,List.mem_cons,List.not_mem_nil,or_false]at a
 rcases a with rfl|rfl|rfl|rfl|rfl|rfl|rfl|rfl<;>rfl
def S8.zero:S8:=⟨0,0,0,0,0,0,0,0⟩
theorem vr (w:World):
  Calls prog 272 #[] w fun e w'=>e= .returned (.agg (bE gi).toArray)∧Below w.heap.size w w':=by
 have a:Hid ((prog.info? 322).map (·.size)=some (bE gi).length):=by show _= _;kernel_rfl
 have hz:Hid (ac (w.alloc (.cells (List.replicate 64 (Value.int .u32 0)).toArray 322)) w.heap.size (List.replicate 64 (.int .u32 0)) 322):=ac.new _ _ _;have hb:Hid (Below w.heap.size w (w.alloc (.cells (List.replicate 64 (Value.int .u32 0)).toArray 322))):=(Below.refl _ _).alloc (Nat.le_refl _) _;have hl:Hid ((bE gi).length=(List.replicate 64 (Value.int .u32 0)).length):=by show _= _;rfl
 go_enter func272,ntmps272
 go_wp2_with (first
  |((with_reducible refine au 322 ?parts (bE gi) ?hgd ?ho ?hf ?_);(case hgd|ho=>rfl);(case hf=>kernel_rfl))
  |((with_reducible refine jE 322 (.tmp 0) (.tmp 1) w.heap.size (List.replicate 64 (Value.int .u32 0)) (bE gi) 322 ?hz ?hl a.out (lO _) ?hgd ?ho ?hx ?hy ?_);(case hgd|ho|hx=>rfl);(case hz=>exact hz.out);(case hl=>exact hl.out);(case hy=>rfl))
  |((with_reducible refine bodyPost_ret (v:= .agg (bE gi).toArray) ?hr ?hd ?hR)
    (case hd=>rfl)
    (case hR=>exact⟨rfl,Below.setCells (Nat.le_refl _) _ _ hb.out⟩)
    (case hr=>exact results_cell_row rfl _ _ w.heap.size _ _ _ _ rfl (hz.out.setAll (bE gi) hl.out) underlying322 rfl (by rw[List.size_toArray];exact a.out))))
theorem KW (e f g:Nat) (b:e<4294967296) (c:f<4294967296) (a:g<4294967296):
  bits BinOp.xor IntKind.u32 (g:Int) (bits BinOp.and IntKind.u32 (e:Int) (bits BinOp.xor IntKind.u32 (f:Int) (g:Int)))=((Jj e f g:Nat):Int):=by
 rw[u32_xor_nat _ _ c a,u32_and_nat _ _ b (y9 c a),u32_xor_nat _ _ a (sy b),KH b a]
theorem JX (a b c:Nat) (d:a<4294967296) (hb:b<4294967296) (hc:c<4294967296):
  bits BinOp.or IntKind.u32 (bits BinOp.and IntKind.u32 (a:Int) (b:Int)) (bits BinOp.and IntKind.u32 (c:Int) (bits BinOp.or IntKind.u32 (a:Int) (b:Int)))=((Jk a b c:Nat):Int):=by
 rw[u32_and_nat _ _ d hb,u32_or_nat _ _ d hb,u32_and_nat _ _ hc (JJ d hb),u32_or_nat _ _ (sy d) (sy hc),KI]
def kz (n:Nat):List Value:=List.replicate n (.int .u32 0)
theorem F4 (w:World):Sem.run prog (zeroValue 322) w= .ok (.agg (kz 64).toArray) w:=by kernel_rfl
theorem Jp (w:World):Sem.run prog (zeroValue 286) w= .ok (.agg S8.zero.cells.toArray) w:=by kernel_rfl
theorem F5:(prog.info? 322).map (·.size)=some 64:=by kernel_rfl
theorem m5 (s:S8):(prog.info? 286).map (·.size)=some s.cells.length:=by kernel_rfl
structure KX (w0:World) (s:S8) (ws:List Nat) (b2 b4 b5 b6 b7:Nat) (y:S8) (w:World):Prop where
 x:ac w b2 s.cells 286
 out:ac w b4 S8.zero.cells 286
 ws:ac w b5 (bE ws) 322
 ks:ac w b6 (bE gi) 322
 y:ac w b7 y.cells 286
 bel:Below w0.heap.size w0 w
 lo:w0.heap.size≤b2∧b2<b4∧b4<b5∧b5<b6∧b6<b7
def mix (y x:List Nat) (k:Nat):List Nat:=(List.range 8).map fun i=>if i<k then(y.getD i 0+x.getD i 0) % 4294967296 else y.getD i 0
theorem ig (y x:List Nat) (k:Nat):(mix y x k).length=8:=by simp[mix]
theorem uk (y x:List Nat) (k i:Nat) (a:i<8):(mix y x k).getD i 0=if i<k then(y.getD i 0+x.getD i 0) % 4294967296 else y.getD i 0:=by
 simp[mix,a]
theorem JY (y x:S8):bE (mix y.l x.l 8)=(y.add x).cells:=by rfl
theorem JZ (y x:List Nat) (k:Nat) (b:k<8):(bE (mix y x k)).set k (.int .u32 (((y.getD k 0+x.getD k 0) % 4294967296:Nat):Int))=bE (mix y x (k+1)):=by
 apply List.ext_getElem?
 intro i
 by_cases a:i<8
 ·rw[List.getElem?_set]
  by_cases e:k=i
  ·subst e
   rw[if_pos rfl,if_pos (by simp[eP,ig,a]),gW _ _ (by rw[ig];exact a),uk _ _ _ _ a,if_pos (by omega)]
  ·rw[if_neg e,gW _ _ (by rw[ig];exact a),gW _ _ (by rw[ig];exact a),uk _ _ _ _ a,uk _ _ _ _ a]
   by_cases h:i<k
   ·rw[if_pos h,if_pos (by omega)]
   ·rw[if_neg h,if_neg (by omega)]
 ·rw[List.getElem?_eq_none (by simp[eP,ig];omega),List.getElem?_eq_none (by simp[eP,ig];omega)]
structure KY (w0:World) (s:S8) (b2 b4 b7:Nat) (y:List Nat) (w:World):Prop where
 x:ac w b2 (bE s.l) 286
 out:ac w b4 S8.zero.cells 286
 y:ac w b7 (bE y) 286
 bel:Below w0.heap.size w0 w
 lo:w0.heap.size≤b2∧b2<b4∧b4<b7
theorem BQ (s:S8) (hs:s.ok) (n:ByteArray) (w:World) (h:n.size=64):
  Calls prog 223 #[s.val, .string n] w fun e w'=>e= .returned (CN s n.data.toList).val∧Below w.heap.size w w':=by
 obtain⟨j,z⟩:∃j,Hid (j=bB n.data.toList 64):=⟨_,rfl⟩;have D:Hid ((bE j).length=64):=by show _= _;rw[z.out,eP,ek]
 have C:Hid ((bE gi).length=64):=by show _= _;rfl
 have S:Hid ((kz 64).length=64):=by show _= _;simp[kz]
 go_enter func223,ntmps223
 go_wp2_with (first
  |((with_reducible refine ae 286 (.tmp 0) s.cells (some 2) ?hgd ?ho ?hd ?hx ?_);(case hgd|ho|hd|hx=>rfl);(intro A w2 l2 B2 e2 z2))
  |((with_reducible refine ab 286 S8.zero.cells Jp (some 4) ?hgd ?ho ?hd ?_);(case hgd|ho|hd=>rfl);(intro B w4 l4 B4 Z z4)))
 refine(words_walk n _ h).mono ?_
 rintro e w5 ⟨rfl,c⟩;rw[←z.out];go_wp2_with fail
 refine(vr _).mono ?_
 rintro e w6 ⟨rfl,f⟩
 go_wp2_with (first
  |((with_reducible refine ab 322 (kz 64) F4 (some 5) ?hgd ?ho ?hd ?_);(case hgd|ho|hd=>rfl);(intro T w7 l5 B5 V z5))
  |((with_reducible refine ab 322 (kz 64) F4 (some 6) ?hgd ?ho ?hd ?_);(case hgd|ho|hd=>rfl);(intro U w8 l6 B6 Q z6);(have H:=B5.below Q (by omega)))
  |((with_reducible refine aa 322 (.tmp 5) (.tmp 19) T (kz 64) (bE j) 322 H (D.out.trans S.out.symm) (F5.trans (congrArg some D.out.symm)) (lO _) ?hgd ?ho ?hx ?hy ?_);(case hgd|ho|hx|hy=>rfl);(intro w9 I G);(have J:=G.blk B6 (by omega)))
  |((with_reducible refine aa 322 (.tmp 6) (.tmp 20) U (kz 64) (bE gi) 322 J (C.out.trans S.out.symm) (F5.trans (congrArg some C.out.symm)) (lO _) ?hgd ?ho ?hx ?hy ?_);(case hgd|ho|hx|hy=>rfl);(intro dc K o);(have u:=o.blk (G.blk ((((((B2.below Z (by omega)).below c (by omega)).below f (by have:=c.size;omega)).below V (by have:=c.size;have:=f.size;omega)).below Q (by have:=c.size;have:=f.size;omega))) (by have:=c.size;have:=f.size;omega)) (by have:=c.size;have:=f.size;omega)))
  |((with_reducible refine aj 286 (.tmp 2) A s.cells 286 _ u underlying286 rfl (m5 s) ?hgd ?ho ?hx ?_);(case hgd|ho|hx=>rfl))
  |((with_reducible refine ab 286 S8.zero.cells Jp (some 7) ?hgd ?ho ?hd ?_);(case hgd|ho|hd=>rfl);(intro d dg l7 B7 F z7))
  |((with_reducible refine aa 286 (.tmp 7) (.tmp 21) d S8.zero.cells s.cells 286 B7 rfl (m5 s) (S8.cells_one _) ?hgd ?ho ?hx ?hy ?_);(case hgd|ho|hx|hy=>rfl);(intro w12 L g)))
 have q5:=c.size;have q6:=f.size;have q9:=G.size;have ad:=o.size
 have t:KX w s j A B T U d (nA j s 0) w12:=by
  refine⟨g.blk (u.below F (by omega)) (by omega), ?_,g.blk ((o.blk I (by omega)).below F (by omega)) (by omega),g.blk (K.below F (by omega)) (by omega),L, ?_,by omega⟩
  ·exact g.blk ((o.blk (G.blk (((((B4.below c (by omega)).below f (by omega)).below V (by omega)).below Q (by omega))) (by omega)) (by omega)).below F (by omega)) (by omega)
  ·exact g.below ((o.below (G.below ((((((e2.mono l2).trans (Z.mono (by omega))).trans (c.mono (by omega))).trans (f.mono (by omega))).trans (V.mono (by omega))).trans (Q.mono (by omega))) (by omega)) (by omega)).trans (F.mono (by omega))) (by omega)
 clear q5 q6 q9 ad B2 B4 B5 B6 B7 H J u I K L G o g e2 Z V Q F l2 l4 l5 l6 l7 z2 z4 z5 z6 z7 c f;go_loopw [22] (fun i wr=>∃k:Nat,k≤64∧i= .int .i64 k∧KX w s j A B T U d (nA j s k) wr) (fun i _=>64-(intOf i).toNat)
 case atStart=>exact⟨0,by omega,rfl,t⟩
 case round=>
  clear t;obtain⟨k,hk,rfl,b⟩:=hrel
  by_cases m:k<64
  ·have R:(k:Int)<64:=by omega
   obtain⟨y,E⟩:∃y,Hid (y=nA j s k):=⟨_,rfl⟩;rw[←E.out]at b;have hy:y.ok:=by rw[E.out];exact JL j hs k
   obtain⟨ya,yb,yc,yd,ye,yf,yg,yh⟩:=y;obtain⟨a0,a1,a2,a3,a4,a5,a6,a7⟩:=hy;obtain⟨W,M⟩:∃W,Hid (W=gi.getD k 0):=⟨_,rfl⟩;obtain⟨wk,N⟩:∃wk,Hid (wk=j.getD k 0):=⟨_,rfl⟩;have c0:wr.cell? ⟨d,0,none⟩=some (.int .u32 ya):=b.y.cell rfl;have c1:wr.cell? ⟨d,1,none⟩=some (.int .u32 yb):=b.y.cell rfl;have c2:wr.cell? ⟨d,2,none⟩=some (.int .u32 yc):=b.y.cell rfl;have c3:wr.cell? ⟨d,3,none⟩=some (.int .u32 yd):=b.y.cell rfl;have c4:wr.cell? ⟨d,4,none⟩=some (.int .u32 ye):=b.y.cell rfl;have c5:wr.cell? ⟨d,5,none⟩=some (.int .u32 yf):=b.y.cell rfl;have c6:wr.cell? ⟨d,6,none⟩=some (.int .u32 yg):=b.y.cell rfl;have c7:wr.cell? ⟨d,7,none⟩=some (.int .u32 yh):=b.y.cell rfl;have ck:wr.cell? ⟨U,k,none⟩=some (.int .u32 W):=by rw[M.out];exact b.ks.cell (gW _ _ (by rw[←eP,C.out];exact m))
   have cw:wr.cell? ⟨T,k,none⟩=some (.int .u32 wk):=by rw[N.out];exact b.ws.cell (gW _ _ (by rw[←eP,D.out];exact m))
   have q:=hid b;clear b;go_wp2_with fail;refine aB (by kernel_rfl) (by kernel_rfl) ?_
   iterate 18 still_step
   refine wpStill_nil ?_;go_wp2_with fail;refine aB (by kernel_rfl) (by kernel_rfl) ?_
   iterate 3 still_step
   still_call (eo (FX _ _ a4))
   repeat still_step
   refine wpStill_nil ?_;go_wp2_with fail
   refine(FY _ _ a0).mono ?_
   rintro e w' ⟨rfl,rfl⟩;go_wp2_with ((with_reducible refine aa 286 (.tmp 7) (.tmp 83) d (S8.cells ⟨ya,yb,yc,yd,ye,yf,yg,yh⟩) ?cs 286 q.out.y.drew.drew ?hl ?hi ?h1 ?hgd ?ho ?hx ?hy ?_);(case hgd|ho|hx|hy|hl=>rfl);(case hi=>exact m5 S8.zero);(case h1=>(intro v hv;simp only[List.mem_cons,List.not_mem_nil,or_false]at hv;rcases hv with rfl|rfl|rfl|rfl|rfl|rfl|rfl|rfl<;>rfl));(intro ds Y p));go_roundw
   case rel=>
    have eN:nA j s (k+1)=FA ⟨ya,yb,yc,yd,ye,yf,yg,yh⟩ W wk:=by
     rw[show nA j s (k+1)=FA (nA j s k) (gi.getD k 0) (j.getD k 0)from rfl,←E.out,←M.out,←N.out]
    refine⟨k+1,by omega,by go_num, ?_⟩;rw[eN];have b:=q.out;refine⟨p.blk b.x.drew.drew ?_,p.blk b.out.drew.drew ?_,p.blk b.ws.drew.drew ?_,p.blk b.ks.drew.drew ?_,Y.ext ?_,p.below b.bel.drew.drew ?_,b.lo⟩
    all_goals have cm:=b.lo
    ·omega
    ·omega
    ·omega
    ·omega
    ·rw[KW _ _ _ a4 a5 a6,JX _ _ _ a0 a1 a2]
     simp[S8.cells,FA,KE,LO]
    ·omega
   case measure=>simp[intOf];omega
  ·obtain rfl:k=64:=by omega
   obtain⟨y,E⟩:∃y,Hid (y=nA j s 64):=⟨_,rfl⟩;rw[←E.out]at b;have hU:KY w s A B d (mix y.l s.l 0) wr:=⟨b.x,b.out,b.y,b.bel,by have:=b.lo;omega⟩;clear b;obtain⟨wo,rfl⟩:∃wo:World,wo=wr:=⟨_,rfl⟩;have HU:=hid hU;clear hU;rw[show((64:Nat):Int)=64 from rfl];go_wp2_with fail;go_loopw [85] (fun i wr=>∃k:Nat,k≤8∧i= .int .i64 k∧KY w s A B d (mix y.l s.l k) wr) (fun i _=>8-(intOf i).toNat)
   case atStart=>exact⟨0,by omega,rfl,HU.out⟩
   case round=>
    obtain⟨k,hk,rfl,b⟩:=hrel;clear HU
    by_cases m:k<8
    ·have R:(k:Int)<8:=by omega
     obtain⟨yk,P⟩:∃a,Hid (a=y.l.getD k 0):=⟨_,rfl⟩;obtain⟨xk,O⟩:∃a,Hid (a=s.l.getD k 0):=⟨_,rfl⟩
     have cy:wr.cell? ⟨d,k,none⟩=some (.int .u32 yk):=by
      rw[b.y.cell (gW _ _ (by rw[ig];exact m)),uk _ _ _ _ m,if_neg (by omega),←P.out]
     have cx:wr.cell? ⟨A,k,none⟩=some (.int .u32 xk):=by
      rw[b.x.cell (gW _ _ (by exact m)),←O.out]
     have cf:=b.y.free k;have q:=hid b;clear b;go_wp2_with fail;refine aK 8 (by kernel_rfl) (by kernel_rfl) ?_;simp only[List.take_succ_cons,List.take_zero,List.drop_succ_cons,List.drop_zero]
     iterate 8 still_step
     refine wpStill_nil ?_;go_wp2_with fail;go_roundw
     case rel=>
      have b:=q.out;refine⟨k+1,by omega,by go_num,(b.x.set_other (by have:=b.lo;show A≠d;omega) _).drew,(b.out.set_other (by have:=b.lo;show B≠d;omega) _).drew, ?_,(b.bel.setCell (by have:=b.lo;show w.heap.size≤d;omega) _).drew,b.lo⟩
      refine((b.y.set k _).ext ?_).drew
      rw[←JZ _ _ _ m,←P.out,←O.out]
      congr 2
     case measure=>simp[intOf];omega
    ·obtain rfl:k=8:=by omega
     have q:=hid b;clear b;obtain⟨r,Hr⟩:∃r,Hid (r=y.add s):=⟨_,rfl⟩;have ey:Hid (bE (mix y.l s.l 8)=r.cells):=by show _= _;rw[JY,Hr.out]
     have er:Hid (r=CN s n.data.toList):=by show _= _;rw[Hr.out,E.out,z.out];rfl
     go_wp2_with (first
      |((with_reducible refine aj 286 (.tmp 7) d r.cells 286 _ (q.out.y.ext ey.out) underlying286 rfl (m5 r) ?hgd ?ho ?hx ?_);(case hgd|ho|hx=>rfl))
      |((with_reducible refine aa 286 (.tmp 4) (.tmp 97) B S8.zero.cells r.cells 286 q.out.out rfl (m5 r) (S8.cells_one _) ?hgd ?ho ?hx ?hy ?_);(case hgd|ho|hx|hy=>rfl);(intro w12 X g))
      |((with_reducible refine bodyPost_ret (v:=r.val) ?hr ?hd ?hR)
        (case hd=>rfl)
        (case hR=>exact⟨by rw[er.out],g.below q.bel (by have:=q.lo;omega)⟩)
        (case hr=>exact results_cell_row rfl _ _ B _ _ _ _ rfl X underlying286 rfl (m5 r))))
theorem J0 (n:Nat):lq n=[128]++List.replicate (63-(n+8) % 64) 0++beBytes 8 (8*n):=by simp[lq]
theorem pad_walk (n:Nat) (w:World) (hn:n≤1073741824):
  Calls prog 225 #[.int .i64 n] w fun e w'=>∃r,e= .returned (.tuple #[.string r, .int .i64 0])∧ah r (lq n)∧Below w.heap.size w w':=by
 have j:(n:Int)≤1073741824:=by omega
 obtain⟨m,b⟩:∃m,Hid (m=63-(n+8) % 64):=⟨_,rfl⟩;have l:(63:Int)-((n:Int)+8) % 64=m:=by have:=b.out;omega
 have o:m≤63:=by have:=b.out;omega
 obtain⟨q,c⟩:∃q,Hid (q=8*n):=⟨_,rfl⟩;have k:(8:Int)*(n:Int)=(q:Int):=by have:=c.out;omega
 have p:q≤8589934592:=by have:=c.out;omega
 go_enter func225,ntmps225;go_wp2_with fail
 refine(sF q 8 _ (by omega) (by omega) (by omega) (by omega)).mono ?_
 rintro e u ⟨h,rfl,f,a⟩;go_wp2_with fail
 refine(kw m _ (by omega)).mono ?_
 rintro e v ⟨i,rfl,g,d⟩;have s:h.size≤8:=by rw[f.size,beBytes_length];omega
 have t:i.size≤63:=by rw[g.size,List.length_replicate];omega
 go_wp2_with fail;go_ret2;refine⟨_,rfl, ?_,a.trans (d.mono a.size)⟩;rw[J0,←b.out,←c.out]
 exact((ah.mk [128]).append g).append f
def jq (l:List Nat) (k:Nat):List UInt8:=(l.take k).flatMap (beBytes 4)
theorem xU (l:List Nat) (k:Nat) (h:k≤l.length):(jq l k).length=4*k:=by
 induction k with
 |zero=>simp[jq]
 |succ k ih=>
  have:=ih (by omega)
  unfold jq at this ⊢;rw[List.take_succ_eq_append_getElem (by omega),List.flatMap_append,List.length_append,this];simp[beBytes_length];omega
theorem D7 (s:S8):jq s.l 8=s.text:=by simp[jq,S8.l,S8.text]
theorem BR (l:List Nat) (k:Nat) (h:k<l.length):jq l (k+1)=jq l k++beBytes 4 (l.getD k 0):=by
 unfold jq;rw[List.take_succ_eq_append_getElem h,List.flatMap_append];simp[h]
theorem LS (L R:List UInt8) (n a b c d:Nat) (k:Nat) (e:L.length=k):
  ((((L++(0::0::0::0::R)).set k (UInt8.ofNat a)).set (k+1) (UInt8.ofNat b)).set (k+2) (UInt8.ofNat c)).set (k+3) (UInt8.ofNat d)=
  L++(UInt8.ofNat a::UInt8.ofNat b::UInt8.ofNat c::UInt8.ofNat d::R):=by
 subst e;rw[List.set_append_right _ _ (by omega),List.set_append_right _ _ (by simp),List.set_append_right _ _ (by simp),List.set_append_right _ _ (by simp)];simp
theorem be4 (n:Nat):beBytes 4 n=[UInt8.ofNat (n/16777216 % 256),UInt8.ofNat (n/65536 % 256),UInt8.ofNat (n/256 % 256),UInt8.ofNat (n % 256)]:=by
 simp[beBytes,Nat.div_div_eq_div_mul]
theorem F6 (w:World):Sem.run prog (zeroValue 326) w= .ok (.agg (bytesV (List.replicate 32 0)).toArray) w:=by kernel_rfl
theorem F7 (s:S8) (M:s.ok) (w:World):
  Calls prog 226 #[s.val] w fun e w'=>∃r,e= .returned (.string r)∧ah r s.text∧Below w.heap.size w w':=by
 go_enter func226,ntmps226
 go_wp2_with (first
  |((with_reducible refine ae 286 (.tmp 0) s.cells (some 1) ?hgd ?ho ?hd ?hx ?_);(case hgd|ho|hd|hx=>rfl);(intro y S B p u G))
  |((with_reducible refine ab 326 (bytesV (List.replicate 32 0)) F6 (some 3) ?hgd ?ho ?hd ?_);(case hgd|ho|hd=>rfl);(intro g w4 N q o T))
  |((with_reducible refine aj 286 (.tmp 1) y s.cells 286 _ (p.below o (by omega)) underlying286 rfl (m5 s) ?hgd ?ho ?hx ?_);(case hgd|ho|hx=>rfl)))
 have c:Below w.heap.size w w4:=(u.mono B).trans (o.mono (by omega));have j:=hid q;have z:w.heap.size≤g:=by omega
 clear p q u o G;go_loopw [7] (fun i wr=>∃k:Nat,k≤8∧i= .int .i64 k∧ac wr g (bytesV (jq s.l k++List.replicate (32-4*k) 0)) 326∧Below w.heap.size w wr) (fun i _=>8-(intOf i).toNat)
 case atStart=>exact⟨0,by omega,rfl,j.ext (by simp[jq]),c⟩
 case round=>
  clear j c;obtain⟨k,L,rfl,b,d⟩:=hrel
  by_cases h:k<8
  ·have v:(k:Int)<8:=by omega
   obtain⟨x,t⟩:∃a,Hid (a=s.l.getD k 0):=⟨_,rfl⟩;have A:s.cells[k]?=some (.int .u32 (x:Int)):=by rw[t.out];exact gW s.l k h
   have f:=xU s.l k (by show k≤8;omega);have m:=hid f;clear f;have O:wr.cell? ⟨g,4*k,none⟩=some _:=b.cell (eB _ (4*k) (by rw[List.length_append,m.out];simp;omega));have P:wr.cell? ⟨g,4*k+1,none⟩=some _:=b.cell (eB _ (4*k+1) (by rw[List.length_append,m.out];simp;omega));have Q:wr.cell? ⟨g,4*k+2,none⟩=some _:=b.cell (eB _ (4*k+2) (by rw[List.length_append,m.out];simp;omega));have R:wr.cell? ⟨g,4*k+3,none⟩=some _:=b.cell (eB _ (4*k+3) (by rw[List.length_append,m.out];simp;omega));have H:=b.free (4*k);have I:=b.free (4*k+1);have J:=b.free (4*k+2);have K:=b.free (4*k+3);have n:=hid b;clear b;go_wp2_with ((with_reducible refine fq 286 221 (.tmp 6) (.tmp 7) s.cells 8 k (.int .u32 (x:Int)) (some 10) underlying286 isAgg221 sizeOf221 h A ?hgd ?ho ?hd ?hx ?hy ?_);(case hgd|ho|hd|hx|hy=>rfl));go_roundw
   case rel=>
    refine⟨k+1,by omega,by go_num, ?_,(((d.setCell (by show w.heap.size≤g;omega) _).setCell (by show w.heap.size≤g;omega) _).setCell (by show w.heap.size≤g;omega) _).setCell (by show w.heap.size≤g;omega) _⟩
    refine((((n.set _ _).set _ _).set _ _).set _ _).ext ?_
    have C:(x:Int)/16777216 % 256=(((UInt8.ofNat (x/16777216 % 256)).toNat:Nat):Int):=by simp
    have D:(x:Int)/65536 % 256=(((UInt8.ofNat (x/65536 % 256)).toNat:Nat):Int):=by simp
    have E:(x:Int)/256 % 256=(((UInt8.ofNat (x/256 % 256)).toNat:Nat):Int):=by simp
    have F:(x:Int) % 256=(((UInt8.ofNat (x % 256)).toNat:Nat):Int):=by simp
    rw[C,D,E,F,cU,cU,cU,cU]
    congr 1
    rw[show List.replicate (32-4*k) (0:UInt8)=0::0::0::0::List.replicate (32-4*(k+1)) 0 by
     rw[show 32-4*k=32-4*(k+1)+1+1+1+1 by omega];rfl]
    rw[LS _ _ 0 _ _ _ _ _ m.out,BR _ _ h,←t.out,be4];simp
   case measure=>simp[intOf];omega
  ·obtain rfl:k=8:=by omega
   have n:Hid (ac wr g (bytesV s.text) 326):=b.ext (by rw[D7];simp);clear b;rw[show((8:Nat):Int)=8 from rfl];go_wp2_with ((with_reducible refine dw 147 9 5 (.tmp 38) s.text g 0 32 32 (some 39) underlying147 underlying5 underlying9 n.out.range (S8.text_length s).symm ?hgd ?ho ?hd ?hx ?_);(case hgd|ho|hd|hx=>rfl));go_ret;exact⟨_,rfl,ah.mk _,d⟩
def hcells (st:S8) (r:ByteArray) (n:Nat):List Value:= .bool true::(st.cells++[.string r, .int .i64 (n:Int)])
theorem rN (a:S8) (r:ByteArray) (n:Nat):(prog.info? 289).map (·.size)=some (hcells a r n).length:=by kernel_rfl
theorem zE (w:World):
  Calls prog 144 #[] w fun e b=>∃n,e= .returned (.pointer (some ⟨n,0,none⟩))∧w.heap.size≤n∧ac b n (hcells S8.first ⟨#[]⟩ 0) 289∧Below w.heap.size w b∧n<b.heap.size:=by
 go_enter func144,ntmps144;go_wp2_with fail
 refine(D4 _).mono ?_
 rintro e h ⟨rfl,a⟩
 go_wp2_with (first
  |((with_reducible refine au 289 ?parts (hcells S8.first ⟨#[]⟩ 0) ?hgd ?ho ?hf ?_);(case hgd|ho=>rfl);(case hf=>kernel_rfl))
  |((with_reducible refine ae 289 (.tmp 2) (hcells S8.first ⟨#[]⟩ 0) (some 3) ?hgd ?ho ?hd ?hx ?_);(case hgd|ho|hd|hx=>rfl);(intro n i g c d f)))
 go_ret
 have:=a.size
 exact⟨n,rfl,by omega,c,a.trans (d.mono (by omega)),f⟩
theorem ul (b:Nat) (a:S8) (r:ByteArray) (n:Nat) (w:World) (hb:ac w b (hcells a r n) 289):
  Calls prog 222 #[.pointer (some ⟨b,0,none⟩)] w fun e w'=>e= .returned (.bool true)∧w=w':=by
 have c:w.cell? ⟨b,0,none⟩=some (.bool true):=hb.cell rfl;clear hb;go_enter func222,ntmps222;go_wp2;go_ret;exact⟨rfl,rfl⟩
def bA (m:List UInt8):S8:=blocks (m.length/64) S8.first m
def fB (m:List UInt8):List UInt8:=m.drop (64*(m.length/64))
def mC (w:World) (b:Nat) (m:List UInt8):Prop:=∃r,ah r (fB m)∧ac w b (hcells (bA m) r m.length) 289
def F8:Value→Nat| .string s=>s.size|_=>0
theorem BS (k:Nat) (s:S8) (l:List UInt8):blocks (k+1) s l=CN (blocks k s l) ((l.drop (64*k)).take 64):=by
 induction k generalizing s l with
 |zero=>simp[blocks]
 |succ k ih=>
  rw[blocks,ih,List.drop_drop,show 64+64*k=64*(k+1) by omega]
  rfl
theorem IF (m x:List UInt8) (k:Nat) (e:64*k≤(fB m++x).length) (d:(fB m++x).length-64*k<64):
  bA (m++x)=blocks k (bA m) (fB m++x)∧fB (m++x)=(fB m++x).drop (64*k):=by
 have hl:(fB m++x).length=m.length-64*(m.length/64)+x.length:=by simp[fB]
 have c:(m++x).length/64=m.length/64+k:=by rw[List.length_append];omega
 have b:m++x=m.take (64*(m.length/64))++(fB m++x):=by rw[←List.append_assoc,fB,List.take_append_drop]
 have a:(m.take (64*(m.length/64))).length=64*(m.length/64):=by simp;omega
 constructor
 ·unfold bA
  rw[c]
  conv=>lhs;rw[b]
  rw[xF _ _ _ _ _ a,Bf]
 ·conv=>lhs;unfold fB
  rw[c]
  conv=>lhs;rw[b]
  rw[List.drop_append,a,List.drop_eq_nil_of_le (by rw[a];omega),List.nil_append]
  congr 1;omega
theorem F9 (m:List UInt8):(bA m).ok:=wu _ S8.first_ok _
theorem D8 {w:World} {b:Nat} {i:S8} {r:ByteArray} {n:Nat} (h:ac w b (hcells i r n) 289):
  w.cell? ⟨b,1,none⟩=some (.int .u32 i.a)∧w.cell? ⟨b,2,none⟩=some (.int .u32 i.b)∧w.cell? ⟨b,3,none⟩=some (.int .u32 i.c)∧w.cell? ⟨b,4,none⟩=some (.int .u32 i.d)∧
  w.cell? ⟨b,5,none⟩=some (.int .u32 i.e)∧w.cell? ⟨b,6,none⟩=some (.int .u32 i.f)∧w.cell? ⟨b,7,none⟩=some (.int .u32 i.g)∧w.cell? ⟨b,8,none⟩=some (.int .u32 i.h)∧
  w.frozen? ⟨b,1,none⟩=false∧w.frozen? ⟨b,2,none⟩=false∧w.frozen? ⟨b,3,none⟩=false∧w.frozen? ⟨b,4,none⟩=false∧
  w.frozen? ⟨b,5,none⟩=false∧w.frozen? ⟨b,6,none⟩=false∧w.frozen? ⟨b,7,none⟩=false∧w.frozen? ⟨b,8,none⟩=false:=
 ⟨h.cell rfl,h.cell rfl,h.cell rfl,h.cell rfl,h.cell rfl,h.cell rfl,h.cell rfl,h.cell rfl,h.free _,h.free _,h.free _,h.free _,h.free _,h.free _,h.free _,h.free _⟩
theorem zF (s:S8) (j:s.ok) (i:ByteArray) (w:World) (h:i.size=64):
  Calls prog 223 #[.agg #[.int .u32 s.a, .int .u32 s.b, .int .u32 s.c, .int .u32 s.d, .int .u32 s.e, .int .u32 s.f, .int .u32 s.g, .int .u32 s.h], .string i] w fun e w'=>
   ∃x:S8,e= .returned (.agg #[.int .u32 x.a, .int .u32 x.b, .int .u32 x.c, .int .u32 x.d, .int .u32 x.e, .int .u32 x.f, .int .u32 x.g, .int .u32 x.h])∧Hid (x=CN s i.data.toList)∧Below w.heap.size w w':=
 (BQ s j i w h).mono fun _ _ ⟨a,b⟩=>⟨_,a,rfl,b⟩
theorem put_walk (b:Nat) (m:List UInt8) (s:ByteArray) (w:World) (hb:mC w b m) (hn:m.length+s.size≤1073741824):
  Calls prog 145 #[.pointer (some ⟨b,0,none⟩), .string s] w fun e w'=>e= .returned (.int .i64 0)∧mC w' b (m++s.data.toList)∧Kept b w w':=by
 obtain⟨r,O,i⟩:=hb;have hr:r.size≤63:=by rw[O.size,fB,List.length_drop];omega
 have hs:s.size≤1073741824:=by omega
 obtain⟨n,R⟩:∃n,Hid (n=m.length):=⟨_,rfl⟩;rw[←R.out]at i hn;have T:w.cell? ⟨b,9,none⟩=some (.string r):=i.cell rfl;have J:w.cell? ⟨b,10,none⟩=some (.int .i64 n):=i.cell rfl;have K:=i.free 10;have o:=hid i;clear i;go_enter func145,ntmps145;go_wp2_with fail
 refine(ul b (bA m) r n _ o.out).mono ?_
 rintro e w1 ⟨rfl,rfl⟩;go_wp2_with fail;obtain⟨L,A⟩:∃L,Hid (L=fB m++s.data.toList):=⟨_,rfl⟩;have M:Hid (L.length=r.size+s.size):=by show _= _;rw[A.out,List.length_append,O.size];rfl
 have B:Hid (((n:Nat):Int)+(s.size:Int)=((n+s.size:Nat):Int)):=by show _= _;omega
 rw[B.out];obtain⟨N,Q⟩:∃N,Hid (N=n+s.size):=⟨_,rfl⟩;rw[←Q.out];have y:Hid (ac (w.setCell ⟨b,10,none⟩ (.int .i64 ((N:Nat):Int))) b (hcells (bA m) r N) 289):=(o.set 10 _).ext rfl;have z:Hid (Kept b w (w.setCell ⟨b,10,none⟩ (.int .i64 ((N:Nat):Int)))):=(Kept.refl b w).setCell 10 _;have bd:b<w.heap.size:=o.lt;have tL:ah (r++s) L:=by rw[A.out];exact O.append (ah.self s)
 clear o T J K B;go_loopw [1] (fun v wr=>∃k t,v= .string t∧64*k≤L.length∧ah t (L.drop (64*k))∧ac wr b (hcells (blocks k (bA m) L) r N) 289∧Kept b w wr) (fun v _=>F8 v)
 case atStart=>exact⟨0,r++s,rfl,by omega,tL.cast (by simp),y.out,z.out⟩
 case round=>
  clear y z;obtain⟨k,t,rfl,hk,G,i,p⟩:=hrel;have V:t.size=L.length-64*k:=by rw[G.size,List.length_drop]
  have E:(blocks k (bA m) L).ok:=wu k (F9 m) L;obtain⟨l,u⟩:∃l,Hid (l=blocks k (bA m) L):=⟨_,rfl⟩;rw[←u.out]at i E;have bl:t.size≤1073741900:=by have:=M.out;omega
  have S:=hid V;clear V;have q:b<wr.heap.size:=i.lt
  by_cases be:64≤t.size
  ·have U:(64:Int)≤(t.size:Int):=by omega
   have F:(t.extract 0 64).size=64:=by simp;omega
   have Y:wr.cell? ⟨b,1,none⟩=some (.int .u32 l.a):=i.cell rfl;have Z:wr.cell? ⟨b,2,none⟩=some (.int .u32 l.b):=i.cell rfl;have d3:wr.cell? ⟨b,3,none⟩=some (.int .u32 l.c):=i.cell rfl;have d4:wr.cell? ⟨b,4,none⟩=some (.int .u32 l.d):=i.cell rfl;have d5:wr.cell? ⟨b,5,none⟩=some (.int .u32 l.e):=i.cell rfl;have d6:wr.cell? ⟨b,6,none⟩=some (.int .u32 l.f):=i.cell rfl;have d7:wr.cell? ⟨b,7,none⟩=some (.int .u32 l.g):=i.cell rfl;have d8:wr.cell? ⟨b,8,none⟩=some (.int .u32 l.h):=i.cell rfl;have W:=hid F;clear F;have o:=hid i;clear i;go_wp2_with fail;go_region_with ((go_at_call 223;refine(zF l E _ _ W.out).mono ?_;rintro e w2 ⟨x,rfl,X,C⟩;have P:=hid (o.drew.below C q);obtain⟨q1,q2,q3,q4,q5,q6,q7,q8,g1,g2,g3,g4,g5,g6,g7,g8⟩:=D8 P.out));clear q1 q2 q3 q4 q5 q6 q7 q8 g1 g2 g3 g4 g5 g6 g7 g8 Y Z d3 d4 d5 d6 d7 d8;go_wp2_with fail;go_roundw
   case rel=>
    refine⟨k+1,t.extract 64 t.size,rfl, ?_, ?_, ?_, ?_⟩
    ·have:=S.out;omega
    ·refine(G.extract 64 t.size).cast ?_
     rw[List.take_of_length_le (by rw[←G.size];exact Nat.le_refl _),List.drop_drop,show 64*k+64=64*(k+1) by omega]
    ·refine((((((((P.set _ _).set _ _).set _ _).set _ _).set _ _).set _ _).set _ _).set _ _).ext ?_
     have ex:x=blocks (k+1) (bA m) L:=by
      rw[X.out,BS,←u.out]
      congr 1
      rw[(G.extract 0 64),List.drop_zero]
     rw[←ex]
     rfl
    ·exact(((((((((p.drew.below' C (Nat.le_refl _)).setCell _ _).setCell _ _).setCell _ _).setCell _ _).setCell _ _).setCell _ _).setCell _ _).setCell _ _)
   case measure=>
    simp[F8];omega
  ·have o:=hid i;clear i
   go_wp2_with fail
   refine(Dt t _ (by omega)).mono ?_
   rintro e w3 ⟨rfl,D⟩;have H:=o.below D q;have T:w3.cell? ⟨b,9,none⟩=some (.string r):=H.cell rfl;have f9:=H.free 9;have I:=hid H;clear H;go_wp2_with fail;go_ret;have j:=IF m s.data.toList k (by rw[←A.out];exact hk) (by rw[←A.out];have:=S.out;omega);rw[←A.out]at j;refine⟨rfl,⟨t,G.cast j.2.symm, ?_⟩,(p.below' D (Nat.le_refl _)).setCell _ _⟩
   refine(I.set 9 _).ext ?_
   rw[j.1,←u.out,List.length_append,←R.out];rw[show n+s.data.toList.length=N by rw[Q.out];rfl]
   rfl
theorem J1 (m:List UInt8):(bA (m++lq m.length)).text=eh m:=rfl
theorem IG (w:World):Sem.run prog (zeroValue 289) w= .ok (.agg (.bool false::(S8.zero.cells++[.string ⟨#[]⟩, .int .i64 0]):List Value).toArray) w:=by kernel_rfl
theorem D9 (b:S8) (r:ByteArray) (n:Nat):∀v∈hcells b r n,v.oneCell'=true:=by
 intro v a;simp only[hcells,S8.cells,List.mem_cons,List.not_mem_nil,or_false,List.cons_append,List.nil_append]at a
 rcases a with rfl|rfl|rfl|rfl|rfl|rfl|rfl|rfl|rfl|rfl|rfl<;>rfl
theorem wR (b:Nat) (m:List UInt8) (w:World) (hb:mC w b m) (hn:m.length≤536870912):
  Calls prog 146 #[.pointer (some ⟨b,0,none⟩)] w fun e w'=>∃r,e= .returned (.string r)∧ah r (eh m)∧Below w.heap.size w w':=by
 obtain⟨r,P,a⟩:=hb;obtain⟨n,k⟩:∃n,Hid (n=m.length):=⟨_,rfl⟩;rw[←k.out]at a hn;have l:w.cell? ⟨b,10,none⟩=some (.int .i64 n):=a.cell rfl;have L:b<w.heap.size:=a.lt;have j:=hid a;clear a;go_enter func146,ntmps146;go_wp2_with fail
 refine(ul b (bA m) r n _ j.out).mono ?_
 rintro e T ⟨rfl,rfl⟩
 go_wp2_with (first
  |((with_reducible refine aj 289 (.tmp 10) b (hcells (bA m) r n) 289 _ j.out underlying289 rfl (rN _ _ _) ?hgd ?ho ?hx ?_);(case hgd|ho|hx=>rfl))
  |((with_reducible refine ab 289 _ IG (some 3) ?hgd ?ho ?hd ?_);(case hgd|ho|hd=>rfl);(intro c Q u A o V);(have g:Q.cell? ⟨b,10,none⟩=some (.int .i64 n):=(j.out.below o (by omega)).cell rfl))
  |((with_reducible refine aa 289 (.tmp 3) (.tmp 11) c _ (hcells (bA m) r n) 289 A ?hl (rN _ _ _) (D9 _ _ _) ?hgd ?ho ?hx ?hy ?_);(case hgd|ho|hx|hy|hl=>rfl);(intro w3 B v);(have d:w3.cell? ⟨b,10,none⟩=some (.int .i64 n):=(v.blk (j.out.below o (by omega)) (by omega)).cell rfl)))
 refine(pad_walk n _ (by omega)).mono ?_
 rintro e G ⟨p,rfl,F,f⟩;have E:=hid v.size;have I:mC G c m:=⟨r,P,by rw[←k.out];exact B.below f (by have:=E.out;omega)⟩;have hp:p.size≤72:=by rw[F.size,A9];omega
 clear g d l B A;go_wp2_with fail
 refine(put_walk c m p G I (by rw[←k.out];omega)).mono ?_
 rintro e R ⟨rfl,⟨M,S,i⟩,D⟩;rw[F]at i;have H:=hid i
 have h:R.rangeAt c 1 (bA (m++lq n)).cells:=by
  have:=i.rangeMid (x:=[.bool true]) (y:=(bA (m++lq n)).cells) (z:=[.string M, .int .i64 (((m++lq n).length:Nat):Int)]) (off:=1) rfl
  exact this
 clear i;have J:=hid h;clear h;have C:=hid D;clear D;go_wp2_with ((with_reducible refine wpList_load_mid ?hgd 286 (.tmp 22) ?ho c 1 ?hx (bA (m++lq n)).cells _ J.out underlying286 rfl (m5 _) ?_);(case hgd|ho|hx=>rfl))
 refine(F7 _ (F9 _) _).mono ?_
 rintro e U ⟨N,rfl,O,t⟩;go_wp2_with fail;go_ret;refine⟨N,rfl,O.cast (by rw[k.out];exact J1 m), ?_⟩;have q:Below w.heap.size w w3:=v.below (o.mono u) u;have K:=f.size
 have:=E.out
 have s:=C.below (q.trans (f.mono (by omega))) u (by omega);exact s.trans (t.mono (by have:=C.size;omega))
def qo (w:World) (v:Value) (xs:List ByteArray):Prop:=
 (v= .slice none 0 0∧xs=[])∨
 ∃g o c,v= .slice (some ⟨g,o,none⟩) xs.length c∧g<w.heap.size∧∀(j:Nat) (x:ByteArray),xs[j]?=some x→w.cell? ⟨g,o+j,none⟩=some (.string x)
theorem qo.new (w:World) (xs:List ByteArray) (c:Nat) (t:TypeId):qo (w.alloc (.cells (xs.map Value.string).toArray t)) (.slice (some ⟨w.heap.size,0,none⟩) xs.length c) xs:=by
 refine .inr ⟨_,_,_,rfl,by simp,fun j x a=> ?_⟩;rw[Nat.zero_add]
 exact(ac.new w (xs.map Value.string) t).cell (by simp[a])
theorem qo.below {w a:World} {v:Value} {xs:List ByteArray} (h:qo w v xs) {B:Nat} (hb:Below B w a) (d:w.heap.size≤B):qo a v xs:=by
 rcases h with h|⟨g,o,c,h1,h2,h3⟩
 ·exact .inl h
 ·exact .inr ⟨g,o,c,h1,by have:=hb.size;omega,fun j x b=>by rw[hb.cell (by show g<B;omega)];exact h3 j x b⟩
def dq (xs:List ByteArray):List UInt8:=xs.flatMap fun x=>x.data.toList
theorem Ge (xs:List ByteArray) (k:Nat) (x:ByteArray) (h:xs[k]?=some x):dq (xs.take (k+1))=dq (xs.take k)++x.data.toList:=by
 obtain⟨a,rfl⟩:=List.getElem?_eq_some_iff.1 h;unfold dq;rw[List.take_succ_eq_append_getElem a,List.flatMap_append];simp
theorem zG (xs:List ByteArray) (k:Nat):(dq (xs.take k)).length≤(dq xs).length:=by
 have:dq xs=dq (xs.take k)++dq (xs.drop k):=by
  unfold dq;rw[←List.flatMap_append,List.take_append_drop]
 rw[this,List.length_append];omega
theorem CW (g o c:Nat) (xs:List ByteArray) (w:World) (F:g<w.heap.size) (hc:∀(j:Nat) (x:ByteArray),xs[j]?=some x→w.cell? ⟨g,o+j,none⟩=some (.string x))
  (hn:(dq xs).length≤536870912) (N:xs.length≤1073741824):
  Calls prog 67 #[.slice (some ⟨g,o,none⟩) xs.length c] w fun e w'=>∃r,e= .returned (.string r)∧ah r (eh (dq xs))∧Below w.heap.size w w':=by
 have D:=hid hc;clear hc;go_enter func67,ntmps67;go_wp2_with fail
 refine(zE _).mono ?_
 rintro e I ⟨b,rfl,G,s,m,K⟩;have u:Hid (mC I b []):=⟨⟨#[]⟩,rfl,s⟩;clear s;go_wp2_with fail;go_loopw [9] (fun i wr=>∃k:Nat,k≤xs.length∧i= .int .i64 k∧mC wr b (dq (xs.take k))∧Below w.heap.size w wr) (fun i _=>xs.length-(intOf i).toNat)
 case atStart=>exact⟨0,by omega,rfl,u.out,m⟩
 case round=>
  clear u m K;obtain⟨k,M,rfl,v,a⟩:=hrel;have t:=hid v;clear v
  by_cases q:k<xs.length
  ·have z:(k:Int)<xs.length:=by omega
   obtain⟨x,l⟩:∃x,xs[k]?=some x:=⟨_,List.getElem?_eq_getElem q⟩
   have L:wr.cell? ⟨g,o+k,none⟩=some (.string x):=by
    rw[a.cell (by show g<w.heap.size;exact F)];exact D.out k x l
   have h:=Ge xs k x l;have f:=zG xs (k+1);rw[h,List.length_append]at f;have C:=hid h;clear h l;have y:(dq (xs.take k)).length+x.size≤(dq xs).length:=f;clear f;go_wp2_with fail
   refine(put_walk b _ x _ t.out (by omega)).mono ?_
   rintro e J ⟨rfl,n,A⟩;have B:=hid n;clear n;have E:=hid A;clear A;go_wp2_with fail;go_roundw
   case rel=>exact⟨k+1,by omega,by go_num,by rw[C.out];exact B.out,E.below a G a.size⟩
   case measure=>simp[intOf];omega
  ·obtain rfl:k=xs.length:=by omega
   have d:Hid (dq (xs.take xs.length)=dq xs):=by show _= _;rw[List.take_length]
   go_wp2_with fail
   refine(wR b _ wr t.out (by rw[d.out];omega)).mono ?_
   rintro e J ⟨r,rfl,H,p⟩;go_wp2_with fail;go_ret;exact⟨r,rfl,H.cast (by rw[d.out]),a.trans (p.mono a.size)⟩
end Go.Proofs.YtadooplpfhdhcaaGreat
