/- Walks of package evolve. Walk of evolve.At, and the example of chapter 18. Walks of the documents' derive (chapter 04). Walks of the documents' Key, Long (chapter 04). Walks of the documents' chapter 18: Made, At, Data. Walks of octet.Get and the documents' Get, of any text. -/
import Derived.Test.YtadooplpfhdhcaaGreatQ5
import Derived.Test.YtadooplpfhdhcaaGreatQ2
import Derived.WalkMore
import Derived.OwnWalk
import Derived.RegionTactic
import Derived.ChangeAlike
set_option linter.unusedSimpArgs false
set_option linter.unusedVariables false
set_option maxRecDepth 100000
set_option maxHeartbeats 4000000
namespace Go.Proofs.YtadooplpfhdhcaaGreat
open Go Go.RowKit
open Go.Lib (hid)
open Go.Proofs.Tryz
def Jr:ByteArray:=⟨#[115,101,97,108]⟩
def LK:ByteArray:=⟨#[110,101,120,116]⟩
def L6:ByteArray:=⟨#[109,97,99]⟩
def LL:ByteArray:=⟨#[100,97,116,97]⟩
def iJ (key label:List UInt8) (xs:List Nat):List UInt8:=rA key (lF label xs)
def C3 (root:List UInt8) (first:Nat):Nat→List UInt8
 |0=>iJ root [115,101,97,108] [first]
 |j+1=>iJ (C3 root first j) [110,101,120,116] []
theorem gK (k l:List UInt8) (xs:List Nat):(iJ k l xs).length=32:=lE _ _
theorem Ao (n:Int) (w:World):
  Calls prog 91 #[.int .i64 n] w fun e w'=>e= .returned (.bool (decide (0≤n∧n≤4294967295)))∧w=w':=by
 by_cases a:0≤n
 ·by_cases b:n≤4294967295
  ·rw[decide_eq_true (show 0≤n∧n≤4294967295 by omega)]
   go_enter func91,ntmps91;go_wp2_with fail;go_ret;exact⟨rfl,rfl⟩
  ·have d:4294967295<n:=by omega
   rw[decide_eq_false (show¬(0≤n∧n≤4294967295) by omega)];go_enter func91,ntmps91;go_wp2_with fail;go_ret;exact⟨rfl,rfl⟩
 ·have c:n<0:=by omega
  rw[decide_eq_false (show¬(0≤n∧n≤4294967295) by omega)];go_enter func91,ntmps91;go_wp2_with fail;go_ret;exact⟨rfl,rfl⟩
theorem vH (key a:ByteArray) (v:Value) (xs:List Int) (w:World) (h:bC w v xs) (b:dI a.data.toList xs=true) (i:∀(j:Nat) (x:Int),xs[j]?=some x→x<9223372036854775808) (f:xs.length≤1073741824):
  Calls prog 92 #[.string key, .string a,v] w fun e w'=>Ends (key.size=32) (iJ key.data.toList a.data.toList (xs.map Int.toNat)) 2 e∧Below w.heap.size w w':=by
 have l:=hid i;clear i;have H:=hid h;clear h;have k:=hid b;clear b
 by_cases g:key.size=32
 ·have m:(key.size:Int)=32:=by omega
  go_enter func92,ntmps92;go_wp2_with fail
  refine(Jc key a v xs _ (by omega) H.out l.out f).mono ?_
  rintro e o ⟨⟨_,r,rfl,n⟩|⟨d,rfl⟩,c⟩
  ·go_wp2_with fail
   go_ret2;exact⟨.inl ⟨g,r,rfl,n⟩,c⟩
  ·exact absurd (k.symm.trans d) (by decide)
 ·have m:¬(key.size:Int)=32:=by omega
  go_enter func92,ntmps92;go_wp2_with fail;go_ret2;exact⟨.inr ⟨g,rfl⟩,Below.refl _ _⟩
theorem Ap (key:ByteArray) (w:World):
  Calls prog 130 #[.string key] w fun e w'=>Ends (key.size=32) (iJ key.data.toList [110,101,120,116] []) 2 e∧Below w.heap.size w w':=by
 go_enter func130,ntmps130;go_wp2_with fail
 refine(vH key LK _ [] _ (bC.nil _) (by decide) (fun j x h=>by simp at h) (by simp)).mono ?_
 rintro e c ⟨⟨h,r,rfl,b⟩|⟨h,rfl⟩,a⟩
 ·go_wp2_with fail
  go_ret2;exact⟨.inl ⟨h,r,rfl,b⟩,a⟩
 ·go_wp2_with fail
  go_ret2;exact⟨.inr ⟨h,rfl⟩,a⟩
theorem CC (key:ByteArray) (w:World):
  Calls prog 207 #[.string key] w fun e w'=>Ends (key.size=32) (iJ key.data.toList [109,97,99] []) 2 e∧Below w.heap.size w w':=by
 go_enter func207,ntmps207;go_wp2_with fail
 refine(vH key L6 _ [] _ (bC.nil _) (by decide) (fun j x h=>by simp at h) (by simp)).mono ?_
 rintro e c ⟨⟨h,r,rfl,b⟩|⟨h,rfl⟩,a⟩
 ·go_wp2_with fail
  go_ret2;exact⟨.inl ⟨h,r,rfl,b⟩,a⟩
 ·go_wp2_with fail
  go_ret2;exact⟨.inr ⟨h,rfl⟩,a⟩
theorem mI (root:ByteArray) (w:World):
  Calls prog 28 #[.string root] w fun e w'=>Ends (root.size=32) (qT root.data.toList [100,97,116,97] 16) 2 e∧Below w.heap.size w w':=by
 by_cases c:root.size=32
 ·have d:(root.size:Int)=32:=by omega
  go_enter func28,ntmps28;go_wp2_with fail
  refine(G9 root LL 16 _ (by omega)).mono ?_
  rintro e g ⟨⟨_,_,_,r,rfl,f⟩|⟨b,rfl⟩,a⟩
  ·go_wp2_with fail
   go_ret2;exact⟨.inl ⟨c,r,rfl,f⟩,a⟩
  ·rcases b with h|h|h
   ·omega
   ·omega
   ·exact absurd h (by decide)
 ·have d:¬(root.size:Int)=32:=by omega
  go_enter func28,ntmps28;go_wp2_with fail;go_ret2;exact⟨.inr ⟨c,rfl⟩,Below.refl _ _⟩
theorem yu (root:ByteArray) (n:Int) (w:World):
  Calls prog 30 #[.string root, .int .i64 n] w fun e w'=>Ends (0≤n∧n≤4294967295∧root.size=32) (iJ root.data.toList [115,101,97,108] [n.toNat]) 2 e∧Below w.heap.size w w':=by
 by_cases a:0≤n∧n≤4294967295
 ·go_enter func30,ntmps30
  go_wp2_with fail
  refine(Ao n _).mono ?_
  rintro e m ⟨rfl,rfl⟩;rw[decide_eq_true a];go_wp2_with ((with_reducible refine bi 34 3 1 ?parts [.int .i64 n] (.int .i64 0) 1 8 (some 11) underlying34 Ks (by omega) (by omega) ?hgd ?ho ?hd ?hf ?_);(case hgd|ho|hd=>rfl);(case hf=>kernel_rfl);(intro g o i k d q))
  refine(vH root Jr _ [n] _ (bC.blk (xs:=[n]) k rfl 1) ?_ ?_ (by simp)).mono ?_
  ·simp[dI,Jr];omega
  ·intro j x f
   cases j with
   |zero=>simp at f;omega
   |succ j=>simp at f
  rintro e p ⟨⟨h,r,rfl,l⟩|⟨h,rfl⟩,b⟩
  ·go_wp2_with fail
   go_ret2;exact⟨.inl ⟨⟨a.1,a.2,h⟩,r,rfl,l⟩,(d.mono i).trans (b.mono (by omega))⟩
  ·go_wp2_with fail
   go_ret2;exact⟨.inr ⟨fun c=>h c.2.2,rfl⟩,(d.mono i).trans (b.mono (by omega))⟩
 ·go_enter func30,ntmps30
  go_wp2_with fail
  refine(Ao n _).mono ?_
  rintro e m ⟨rfl,rfl⟩;rw[decide_eq_false a];go_wp2_with fail;go_ret2;exact⟨.inr ⟨fun c=>a ⟨c.1,c.2.1⟩,rfl⟩,Below.refl _ _⟩
theorem CE (l:List UInt8) (a:Nat):l.foldl (fun n b=>256*n+b.toNat) a=a*256^l.length+bq l:=by
 induction l generalizing a with
 |nil=>simp[bq]
 |cons b r ih=>
  unfold bq;rw[List.foldl_cons,ih,List.foldl_cons,ih (256*0+b.toNat),List.length_cons,Nat.pow_succ,Nat.add_mul];rw[Nat.mul_zero,Nat.zero_add,show 256*a*256^r.length=a*(256^r.length*256) by rw[Nat.mul_comm 256 a,Nat.mul_assoc,Nat.mul_comm 256]];omega
theorem EX (b:UInt8) (r:List UInt8):bq (b::r)=b.toNat*256^r.length+bq r:=by
 unfold bq;rw[List.foldl_cons,CE];simp[bq]
theorem uG {l:List UInt8} {c:UInt8} {n:Nat} (hc:l[0]?=some c) (hn:l.length=n):c.toNat*256^(n-1)≤bq l∧bq l<(c.toNat+1)*256^(n-1):=by
 subst hn
 cases l with
 |nil=>simp at hc
 |cons b r=>
  simp at hc;subst hc;rw[EX]
  have:=iR r
  simp only[List.length_cons,Nat.add_sub_cancel,Nat.add_mul];omega
theorem Hi (x b:Nat) (a:x<36028797018963968) (hb:b<256):bits BinOp.or IntKind.i64 ((x:Int)*256) ((b:Nat):Int)=((256*x+b:Nat):Int):=by
 rw[show(x:Int)*256=((x*256:Nat):Int) by simp,EW _ _ (by omega) (by omega)]
 have:=Nat.two_pow_add_eq_or_of_lt (i:=8) (b:=b) (by omega) x
 rw[show x*256=2^8*x by omega,←this]
theorem nc (s:ByteArray) (w:World):
  Calls prog 268 #[.string s] w fun e w'=>Ld s.data.toList e∧w=w':=by
 have hl:s.data.toList.length=s.size:=rfl;have b:=hid hl;clear hl
 by_cases I:s.size<1
 ·have J:=emptyText I
  have Q:(s.size:Int)<1:=by omega
  go_enter func268,ntmps268;go_wp2_with fail;go_ret2;exact⟨.inr ⟨by rw[b.out];omega,rfl⟩,rfl⟩
 have J:=kE (s:=s) (by omega)
 by_cases O:8<s.size
 ·have A:(8:Int)<s.size:=by omega
  go_enter func268,ntmps268;go_wp2_with fail;go_ret2;exact⟨.inr ⟨by rw[b.out];omega,rfl⟩,rfl⟩
 have A:(s.size:Int)≤8:=by omega
 have G:0<s.size:=by omega
 by_cases u:s.size=8∧127<s[0].toNat
 ·obtain⟨v,P⟩:=u
  have F:(s.size:Int)=8:=by omega
  have E:(127:Int)<(s[0].toNat:Int):=by omega
  have j:¬bq s.data.toList<9223372036854775808:=by
   have:=(uG (l:=s.data.toList) (c:=s[0]) (by rw[List.getElem?_eq_getElem (by rw[b.out];exact G)];rfl) (b.trans v)).1
   omega
  have H:=hid j;clear j;go_enter func268,ntmps268;go_wp2_with fail;go_ret2;exact⟨.inr ⟨fun h=>H.out h.2.2,rfl⟩,rfl⟩
 have r:∀k,bq (s.data.toList.take k)<9223372036854775808:=by
  intro k;refine Nat.lt_of_le_of_lt (EV _ k) ?_
  by_cases v:s.size=8
  ·have C:s[0].toNat≤127:=by omega
   have:=(uG (l:=s.data.toList) (c:=s[0]) (by rw[List.getElem?_eq_getElem (by rw[b.out];exact G)];rfl) (b.trans v)).2
   omega
  ·have C:=iR s.data.toList
   rw[b.out]at C;exact Nat.lt_trans C (Nat.lt_of_le_of_lt (Nat.pow_le_pow_right (by omega) (show s.size≤7 by omega)) (by omega))
 have t:=hid r;clear r
 by_cases v:s.size=8
 ·have F:(s.size:Int)=8:=by omega
  obtain⟨b0,p⟩:∃b0,s[0]=b0:=⟨_,rfl⟩;rw[p]at u;have E:(b0.toNat:Int)≤127:=by omega
  clear u A;go_enter func268,ntmps268;go_wp2_with fail;clear p E;go_loopw [4,25] (fun a i wr=>∃k:Nat,k≤8∧i= .int .i64 k∧a= .int .i64 ((bq (s.data.toList.take k):Nat):Int)∧w=wr) (fun a i _=>8-(intOf i).toNat)
  case atStart=>exact⟨0,by omega,rfl,rfl,rfl⟩
  case round=>
   obtain⟨k,L,rfl,rfl,rfl⟩:=hrel;obtain⟨x,f⟩:∃x,Hid (x=bq (s.data.toList.take k)):=⟨_,rfl⟩;rw[←f.out]
   by_cases D:k<8
   ·have q:(k:Int)<8:=by omega
    have d:k<s.size:=by omega
    have g:=lT s.data.toList k (by rw[b.out];exact d);have m:s.data.toList[k]'(by rw[b.out];exact d)=s[k]:=rfl;rw[m,←f.out]at g;have B:=t.out (k+1);rw[g]at B;have y:=hid g;clear g m;have hb:=s[k].toNat_lt;have M:(x:Int)<36028797018963968:=by omega
    have N:256*(x:Int)+(s[k].toNat:Int)<9223372036854775808:=by omega
    go_wp2_with fail;go_roundw
    case rel=>
     refine⟨k+1,by omega,by go_num, ?_,by trivial⟩;rw[y.out];rw[Hi x _ (by omega) (by omega)]
    case measure=>simp[intOf];omega
   ·obtain rfl:k=8:=by omega
    have n:Hid (x=bq s.data.toList):=by show x= _;rw[f.out,List.take_of_length_le (by rw[b.out];omega)]
    have o:x<9223372036854775808:=by have:=t.out 8;rw[←f.out]at this;exact this
    have z:=hid o;clear o;go_wp2_with fail;go_ret2;refine⟨.inl ⟨⟨by rw[b.out];omega,by rw[b.out];omega,by rw[←n.out];exact z.out⟩, ?_⟩,rfl⟩;rw[←n.out];rfl
 ·have F:(s.size:Int)≤7:=by omega
  have K:¬(s.size:Int)=8:=by omega
  clear u A;go_enter func268,ntmps268;go_wp2_with fail;clear K;go_loopw [4,25] (fun a i wr=>∃k:Nat,k≤s.size∧i= .int .i64 k∧a= .int .i64 ((bq (s.data.toList.take k):Nat):Int)∧w=wr) (fun a i _=>8-(intOf i).toNat)
  case atStart=>exact⟨0,by omega,rfl,rfl,rfl⟩
  case round=>
   obtain⟨k,L,rfl,rfl,rfl⟩:=hrel;obtain⟨x,f⟩:∃x,Hid (x=bq (s.data.toList.take k)):=⟨_,rfl⟩;rw[←f.out]
   by_cases D:k<s.size
   ·have q:(k:Int)<s.size:=by omega
    have d:k<s.size:=by omega
    have g:=lT s.data.toList k (by rw[b.out];exact d);have m:s.data.toList[k]'(by rw[b.out];exact d)=s[k]:=rfl;rw[m,←f.out]at g;have B:=t.out (k+1);rw[g]at B;have y:=hid g;clear g m;have hb:=s[k].toNat_lt;have M:(x:Int)<36028797018963968:=by omega
    have N:256*(x:Int)+(s[k].toNat:Int)<9223372036854775808:=by omega
    go_wp2_with fail;go_roundw
    case rel=>
     refine⟨k+1,by omega,by go_num, ?_,by trivial⟩;rw[y.out];rw[Hi x _ (by omega) (by omega)]
    case measure=>simp[intOf];omega
   ·obtain rfl:k=s.size:=by omega
    have n:Hid (x=bq s.data.toList):=by show x= _;rw[f.out,List.take_of_length_le (by rw[b.out];omega)]
    have o:x<9223372036854775808:=by have:=t.out s.size;rw[←f.out]at this;exact this
    have z:=hid o;clear o;go_wp2_with fail;go_ret2;refine⟨.inl ⟨⟨by rw[b.out];omega,by rw[b.out];omega,by rw[←n.out];exact z.out⟩, ?_⟩,rfl⟩;rw[←n.out];rfl
theorem ir (w n:Nat) (h:n<256^w):bq (beBytes w n)=n:=by
 induction w generalizing n with
 |zero=>simp at h;subst h;rfl
 |succ w ih=>
  unfold beBytes;rw[oZ,ih (n/256) (by rw[Nat.pow_succ]at h;omega)]
  have:(UInt8.ofNat (n % 256)).toNat=n % 256:=by simp[UInt8.toNat_ofNat']
  rw[this];omega
theorem Kt {l:List UInt8} {w:Nat} (h:l.length=w+1):∃(m:List UInt8) (b:UInt8),l=m++[b]∧m.length=w:=by
 refine⟨l.dropLast,l.getLast (by intro e;rw[e]at h;simp at h),(List.dropLast_concat_getLast _).symm,by rw[List.length_dropLast];omega⟩
theorem iu:∀(w:Nat) (l:List UInt8),l.length=w→beBytes w (bq l)=l:=by
 intro w
 induction w with
 |zero=>intro l h;rw[List.length_eq_zero_iff]at h;subst h;rfl
 |succ w ih=>
  intro l h;obtain⟨m,b,rfl,a⟩:=Kt h;have hb:=b.toNat_lt;unfold beBytes;rw[oZ,show(256*bq m+b.toNat)/256=bq m by omega,show(256*bq m+b.toNat) % 256=b.toNat by omega,ih m a];simp
def eZ (l:List UInt8):Option (List UInt8×List UInt8):=
 if l.length<4∨l.length-4<bq (l.take 4)then none else some ((l.drop 4).take (bq (l.take 4)),(l.drop 4).drop (bq (l.take 4)))
theorem jQ {t s:List UInt8} (h:t.length<4294967296):eZ (cq t++s)=some (t,s):=by
 have a:(cq t++s).take 4=beBytes 4 t.length:=by
  unfold cq;rw[List.append_assoc,List.take_append_of_le_length (by rw[beBytes_length];omega),List.take_of_length_le (by rw[beBytes_length];omega)]
 have b:(cq t++s).drop 4=t++s:=by
  unfold cq;rw[List.append_assoc,List.drop_append_of_le_length (by rw[beBytes_length];omega),List.drop_of_length_le (by rw[beBytes_length];omega),List.nil_append]
 unfold eZ;rw[a,b,ir 4 t.length (by simpa using h)];have c:(cq t++s).length=4+t.length+s.length:=by unfold cq;simp[beBytes_length];omega
 rw[if_neg (by rw[c];omega)];simp
theorem Hj {l t s:List UInt8} (h:eZ l=some (t,s)):l=cq t++s∧t.length<4294967296:=by
 unfold eZ at h
 split at h
 ·cases h
 ·next hc=>
  injection h with h
  injection h with h1 h2
  have b:=iR (l.take 4);have a:(l.take 4).length=4:=by rw[List.length_take];omega
  rw[a]at b;have c:t.length=bq (l.take 4):=by rw[←h1,List.length_take,List.length_drop];omega
  refine⟨?_,by rw[c];simpa using b⟩;unfold cq;rw[c,iu 4 _ a,←h1,←h2,List.append_assoc,List.take_append_drop,List.take_append_drop]
theorem Aq {l t s:List UInt8} (h:eZ l=some (t,s)):t.length≤l.length∧s.length≤l.length:=by
 rw[(Hj h).1];unfold cq;simp;omega
def ng (l:List UInt8):Bool:=decide (1≤l.length)&&decide (l.length≤8)&&decide (bq l<9223372036854775808)
theorem lj {l:List UInt8}:ng l=true↔(1≤l.length∧l.length≤8∧bq l<9223372036854775808):=by simp[ng,and_assoc]
def bD:List Nat→List UInt8→Option (List Int)
 |[],_=>some []
 |w::ws,l=>if ng (l.take w)then(bD ws (l.drop w)).map (((bq (l.take w):Nat):Int)::·)else none
structure aH where
 blocks:Int
 lbas:Int
 first:Int
deriving DecidableEq
def aH.cells (g:aH):List Value:=[.int .i64 g.blocks, .int .i64 g.lbas, .int .i64 g.first]
def aH.v (g:aH):Value:= .agg #[.int .i64 g.blocks, .int .i64 g.lbas, .int .i64 g.first]
def aH.zero:aH:=⟨0,0,0⟩
structure cA (g:aH):Prop where
 b0:8≤g.blocks
 b1:g.blocks≤1024
 l0:1≤g.lbas
 l1:g.lbas≤4096
 f0:0≤g.first
 f1:g.first<4294967296
def kf (g:aH):List UInt8:=beBytes 4 g.blocks.toNat++beBytes 4 g.lbas.toNat++beBytes 4 g.first.toNat
theorem js (g:aH):(kf g).length=12:=by unfold kf;simp[beBytes_length]
structure aF where
 gen:Int
 tail:Int
 epoch:Int
 clock:Int
 geo:aH
deriving DecidableEq
def aF.cells (s:aF):List Value:=[.int .i64 s.gen, .int .i64 s.tail, .int .i64 s.epoch, .int .i64 s.clock, .int .i64 s.geo.blocks, .int .i64 s.geo.lbas, .int .i64 s.geo.first]
def aF.v (s:aF):Value:= .agg #[.int .i64 s.gen, .int .i64 s.tail, .int .i64 s.epoch, .int .i64 s.clock, .int .i64 s.geo.blocks, .int .i64 s.geo.lbas, .int .i64 s.geo.first]
def aF.zero:aF:=⟨0,0,0,0, .zero⟩
structure eL (s:aF):Prop where
 geo:cA s.geo
 g0:1≤s.gen
 g1:s.gen≤1152921504606846976
 t0:0≤s.tail
 t1:s.tail≤s.geo.blocks-4
 e0:s.geo.first≤s.epoch
 e1:s.epoch<4294967296
 c0:0≤s.clock
 c1:s.clock≤1099511627776
def lU:List UInt8:=[107,101,101,112,115,97,107,101,49]
def fi (s:aF):List UInt8:=lU++(beBytes 8 s.gen.toNat++beBytes 4 s.tail.toNat++beBytes 4 s.epoch.toNat++beBytes 8 s.clock.toNat)++kf s.geo
theorem vI (s:aF):(fi s).length=45:=by unfold fi lU;simp[beBytes_length,js]
def fa (l:List UInt8) (n:Nat):List UInt8:=l++List.replicate (n-l.length) 0
theorem kg {l:List UInt8} {n:Nat} (h:l.length≤n):(fa l n).length=n:=by unfold fa;simp;omega
def cG (s:aF):List UInt8:=fa (fi s++eh (fi s)) 4096
theorem nL (s:aF):(cG s).length=4096:=kg (by rw[List.length_append,vI,cT];decide)
theorem ij {a b:List UInt8} {n:Nat} (h:a.length=n):(a++b).take n=a:=by subst h;exact List.take_left
theorem ik {a b:List UInt8} {n:Nat} (h:a.length=n):(a++b).drop n=b:=by subst h;exact List.drop_left
def nh:List UInt8:=[107,101,121]
def eM (epoch:Int) (key:List UInt8):List UInt8:=nh++beBytes 4 epoch.toNat++key
def ew (epoch:Int) (key:List UInt8):List UInt8:=fa (eM epoch key++eh (eM epoch key)) 4096
theorem nM {a:Int} {key:List UInt8} (h:key.length=32):(ew a key).length=4096:=kg (by rw[List.length_append,cT];unfold eM nh;simp[beBytes_length,h])
theorem dX {a b:Bool} (h:a=b):Ending.returned (Value.bool a)=Ending.returned (Value.bool b):=by rw[h]
theorem rk {a b:Int} (h:a=b):Ending.returned (Value.int .i64 a)=Ending.returned (Value.int .i64 b):=by rw[h]
theorem cN (s:ByteArray):s.toList.isEmpty=decide (s.size=0):=by
 by_cases h:s.size=0
 ·rw[emptyText (s:=s) (by omega)];simp[h]
 ·rw[kE (s:=s) (by omega)];simp[h]
theorem ct (n m:Int) (w:World):
  Calls prog 206 #[.int .i64 n, .int .i64 m] w fun e w'=>e= .returned (.bool (decide (0≤n)&&decide (n≤m)))∧w=w':=by
 go_enter func206,ntmps206;go_wp2_with fail
 all_goals go_ret
 all_goals refine⟨dX ?_,rfl⟩
 all_goals simp
 all_goals omega
theorem nj (c:UInt8):dS c=false↔((c.toNat<97∨122<c.toNat)∧(c.toNat<48∨57<c.toNat)):=by
 unfold dS;simp;omega
theorem Ar (l:List UInt8) (k:Nat) (c:UInt8) (hc:l[k]?=some c):(l.take (k+1)).all dS=((l.take k).all dS&&dS c):=by
 obtain⟨a,rfl⟩:=List.getElem?_eq_some_iff.1 hc;rw[List.take_succ_eq_append_getElem a,List.all_append];simp
theorem Ho {l:List UInt8} {k:Nat} {c:UInt8} (hc:l[k]?=some c) (h:dS c=false):l.all dS=false:=by
 rw[List.all_eq_false];exact⟨c,List.mem_of_getElem? hc,by rw[h];decide⟩
theorem fQ (s:ByteArray) (w:World) (r:s.size≤1073741824):
  Calls prog 108 #[.string s] w fun e w'=>e= .returned (.bool (bN s.data.toList))∧w=w':=by
 have hl:s.data.toList.length=s.size:=rfl;have d:=hid hl;clear hl
 by_cases m:s.size=0
 ·have o:=emptyText (s:=s) (by omega)
  have l:=hid m;clear m;go_enter func108,ntmps108;go_wp2_with fail;go_loop [6] (fun i=>i= .int .i64 0) (fun _=>0)
  case atStart=>rfl
  case round=>
   subst hrel;have t:(s.size:Int)≤0:=by have:=l.out;omega
   go_wp2_with fail;go_ret;exact⟨dX (by unfold bN;rw[d.out,l.out];rfl),rfl⟩
 have o:=kE (s:=s) (by omega);go_enter func108,ntmps108;go_wp2_with fail;go_loop [6] (fun i=>∃k:Nat,k≤s.size∧i= .int .i64 k∧(s.data.toList.take k).all dS=true) (fun i=>s.size-(intOf i).toNat)
 case atStart=>exact⟨0,by omega,rfl,rfl⟩
 case round=>
  obtain⟨k,q,rfl,a⟩:=hrel;have h:=hid a;clear a
  by_cases f:k<s.size
  ·have n:(k:Int)<s.size:=by omega
   obtain⟨c,hc⟩:∃c,s[k]=c:=⟨_,rfl⟩;have b:s.data.toList[k]?=some c:=by rw[List.getElem?_eq_getElem (by rw[d.out];exact f),←hc];rfl
   have j:=hid b;clear b;have p:=c.toNat_lt;go_wp2_with fail
   all_goals try(
    go_round
    case rel=>
     refine⟨k+1,by omega,by go_num, ?_⟩;rw[Ar _ _ _ j.out,h.out];simp only[Bool.true_and]
     cases hb:dS c with
     |true=>rfl
     |false=>rw[nj]at hb;exfalso;simp_all;omega
    case measure=>simp[intOf];omega)
   all_goals
    go_ret;refine⟨dX ?_,rfl⟩;have g:dS c=false:=by rw[nj];simp_all;omega
    unfold bN;rw[Ho j.out g];simp
  ·obtain rfl:k=s.size:=by omega
   go_wp2_with fail
   all_goals go_ret
   all_goals refine⟨dX ?_,rfl⟩
   all_goals
    have a:=h.out;rw[List.take_of_length_le (by rw[d.out];omega)]at a;unfold bN;rw[a,d.out];rw[show decide ((s.size:Int)≤16)=decide (s.size≤16)from decide_eq_decide.2 (by omega),decide_eq_true (show 1≤s.size by omega)];simp
theorem Le (d h a b f:Int) (root c:ByteArray) (w:World) (g:c.size≤1073741824) (i:Int) (j:wrap64 (d-1)=i):
  Calls prog 205 #[.agg #[.int .i64 1, .int .i64 d, .int .i64 h, .int .i64 a, .int .i64 b, .int .i64 f, .string root, .string c]] w
   fun e w'=>e= .returned (.tuple #[.agg #[.int .i64 0, .int .i64 0, .int .i64 0, .int .i64 0, .int .i64 b, .int .i64 f, .string ⟨#[]⟩, .string c], .bool ((decide (0≤a)&&decide (a≤4096))&&decide (root.size=32))])∧Below w.heap.size w w':=by
 have l:((root.size:Int)==32)=decide (root.size=32):=by rw[Bool.eq_iff_iff];simp;omega
 go_enter func205,ntmps205;go_wp2_with (first|(go_at_call 206;refine(ct _ _ _).mono ?_;rintro e k ⟨rfl,rfl⟩)|(go_at_call 108;refine(fQ _ _ g).mono ?_;rintro e k ⟨rfl,rfl⟩))
 all_goals go_region
 all_goals go_wp2_with fail
 all_goals(refine bodyPost_ret (v:= .tuple #[.agg #[.int .i64 0, .int .i64 0, .int .i64 0, .int .i64 0, .int .i64 b, .int .i64 f, .string ⟨#[]⟩, .string c], .bool ((decide (0≤a)&&decide (a≤4096))&&decide (root.size=32))]) ?_ rfl ⟨rfl, ?_⟩)
 all_goals first
  |(simp[results,results205,go_sem];done)
  |(simp[results,results205,go_sem];omega)
  |(simp[results,results205,go_sem, *];done)
  |skip
 all_goals try(repeat(first|exact Below.refl _ _|assumption|(with_reducible refine Below.drew ?_)|(with_reducible refine Below.setCell ?_ ?_ _)|(with_reducible refine Below.alloc ?_ ?_ _)))
 all_goals try(simp;done)
 all_goals try(simp;omega)
theorem Lh (f h c a b:Int) (root d:ByteArray) (w:World) (g:d.size≤1073741824) (i:Int) (k:wrap64 (f-1)=i):
  Calls prog 205 #[.agg #[.int .i64 2, .int .i64 f, .int .i64 h, .int .i64 c, .int .i64 a, .int .i64 b, .string root, .string d]] w
   fun e w'=>e= .returned (.tuple #[.agg #[.int .i64 0, .int .i64 0, .int .i64 0, .int .i64 c, .int .i64 0, .int .i64 0, .string root, .string d], .bool ((decide (0≤b)&&decide (b≤1099511627776))&&(decide (0≤a)&&decide (a≤i)))])∧Below w.heap.size w w':=by
 skip
 go_enter func205,ntmps205;go_wp2_with (first|(go_at_call 206;refine(ct _ _ _).mono ?_;rintro e j ⟨rfl,rfl⟩)|(go_at_call 108;refine(fQ _ _ g).mono ?_;rintro e j ⟨rfl,rfl⟩))
 all_goals(go_in;go_wp2_with (first|(go_at_call 206;refine(ct _ _ _).mono ?_;rintro e j ⟨rfl,rfl⟩)|(go_at_call 108;refine(fQ _ _ g).mono ?_;rintro e j ⟨rfl,rfl⟩)))
 all_goals go_region
 all_goals go_wp2_with fail
 all_goals(refine bodyPost_ret (v:= .tuple #[.agg #[.int .i64 0, .int .i64 0, .int .i64 0, .int .i64 c, .int .i64 0, .int .i64 0, .string root, .string d], .bool ((decide (0≤b)&&decide (b≤1099511627776))&&(decide (0≤a)&&decide (a≤i)))]) ?_ rfl ⟨rfl, ?_⟩)
 all_goals first
  |(simp[results,results205,go_sem];done)
  |(simp[results,results205,go_sem];omega)
  |(simp[results,results205,go_sem, *];done)
  |skip
 all_goals try(repeat(first|exact Below.refl _ _|assumption|(with_reducible refine Below.drew ?_)|(with_reducible refine Below.setCell ?_ ?_ _)|(with_reducible refine Below.alloc ?_ ?_ _)))
 all_goals try(simp;done)
 all_goals try(simp;omega)
theorem Lj (f h c a b:Int) (root d:ByteArray) (w:World) (g:d.size≤1073741824) (i:Int) (k:wrap64 (f-1)=i):
  Calls prog 205 #[.agg #[.int .i64 5, .int .i64 f, .int .i64 h, .int .i64 c, .int .i64 a, .int .i64 b, .string root, .string d]] w
   fun e w'=>e= .returned (.tuple #[.agg #[.int .i64 0, .int .i64 0, .int .i64 0, .int .i64 c, .int .i64 0, .int .i64 0, .string root, .string d], .bool ((decide (0≤b)&&decide (b≤1099511627776))&&(decide (0≤a)&&decide (a≤i)))])∧Below w.heap.size w w':=by
 skip
 go_enter func205,ntmps205;go_wp2_with (first|(go_at_call 206;refine(ct _ _ _).mono ?_;rintro e j ⟨rfl,rfl⟩)|(go_at_call 108;refine(fQ _ _ g).mono ?_;rintro e j ⟨rfl,rfl⟩))
 all_goals(go_in;go_wp2_with (first|(go_at_call 206;refine(ct _ _ _).mono ?_;rintro e j ⟨rfl,rfl⟩)|(go_at_call 108;refine(fQ _ _ g).mono ?_;rintro e j ⟨rfl,rfl⟩)))
 all_goals go_region
 all_goals go_wp2_with fail
 all_goals(refine bodyPost_ret (v:= .tuple #[.agg #[.int .i64 0, .int .i64 0, .int .i64 0, .int .i64 c, .int .i64 0, .int .i64 0, .string root, .string d], .bool ((decide (0≤b)&&decide (b≤1099511627776))&&(decide (0≤a)&&decide (a≤i)))]) ?_ rfl ⟨rfl, ?_⟩)
 all_goals first
  |(simp[results,results205,go_sem];done)
  |(simp[results,results205,go_sem];omega)
  |(simp[results,results205,go_sem, *];done)
  |skip
 all_goals try(repeat(first|exact Below.refl _ _|assumption|(with_reducible refine Below.drew ?_)|(with_reducible refine Below.setCell ?_ ?_ _)|(with_reducible refine Below.alloc ?_ ?_ _)))
 all_goals try(simp;done)
 all_goals try(simp;omega)
theorem Ll (d h b a g:Int) (root c:ByteArray) (w:World) (f:c.size≤1073741824) (i:Int) (k:wrap64 (d-1)=i):
  Calls prog 205 #[.agg #[.int .i64 3, .int .i64 d, .int .i64 h, .int .i64 b, .int .i64 a, .int .i64 g, .string root, .string c]] w
   fun e w'=>e= .returned (.tuple #[.agg #[.int .i64 0, .int .i64 0, .int .i64 0, .int .i64 b, .int .i64 0, .int .i64 g, .string root, .string ⟨#[]⟩], .bool ((decide (0≤a)&&decide (a≤i))&&bN c.data.toList)])∧Below w.heap.size w w':=by
 skip
 go_enter func205,ntmps205;go_wp2_with (first|(go_at_call 206;refine(ct _ _ _).mono ?_;rintro e j ⟨rfl,rfl⟩)|(go_at_call 108;refine(fQ _ _ f).mono ?_;rintro e j ⟨rfl,rfl⟩))
 all_goals(go_in;go_wp2_with (first|(go_at_call 206;refine(ct _ _ _).mono ?_;rintro e j ⟨rfl,rfl⟩)|(go_at_call 108;refine(fQ _ _ f).mono ?_;rintro e j ⟨rfl,rfl⟩)))
 all_goals go_region
 all_goals go_wp2_with fail
 all_goals(refine bodyPost_ret (v:= .tuple #[.agg #[.int .i64 0, .int .i64 0, .int .i64 0, .int .i64 b, .int .i64 0, .int .i64 g, .string root, .string ⟨#[]⟩], .bool ((decide (0≤a)&&decide (a≤i))&&bN c.data.toList)]) ?_ rfl ⟨rfl, ?_⟩)
 all_goals first
  |(simp[results,results205,go_sem];done)
  |(simp[results,results205,go_sem];omega)
  |(simp[results,results205,go_sem, *];done)
  |skip
 all_goals try(repeat(first|exact Below.refl _ _|assumption|(with_reducible refine Below.drew ?_)|(with_reducible refine Below.setCell ?_ ?_ _)|(with_reducible refine Below.alloc ?_ ?_ _)))
 all_goals try(simp;done)
 all_goals try(simp;omega)
theorem Lm (d h b a f:Int) (root c:ByteArray) (w:World) (g:c.size≤1073741824) (i:Int) (j:wrap64 (d-1)=i):
  Calls prog 205 #[.agg #[.int .i64 4, .int .i64 d, .int .i64 h, .int .i64 b, .int .i64 a, .int .i64 f, .string root, .string c]] w
   fun e w'=>e= .returned (.tuple #[.agg #[.int .i64 0, .int .i64 0, .int .i64 0, .int .i64 b, .int .i64 a, .int .i64 f, .string root, .string ⟨#[]⟩], .bool (bN c.data.toList)])∧Below w.heap.size w w':=by
 skip
 go_enter func205,ntmps205;go_wp2_with (first|(go_at_call 206;refine(ct _ _ _).mono ?_;rintro e k ⟨rfl,rfl⟩)|(go_at_call 108;refine(fQ _ _ g).mono ?_;rintro e k ⟨rfl,rfl⟩))
 all_goals go_region
 all_goals go_wp2_with fail
 all_goals(refine bodyPost_ret (v:= .tuple #[.agg #[.int .i64 0, .int .i64 0, .int .i64 0, .int .i64 b, .int .i64 a, .int .i64 f, .string root, .string ⟨#[]⟩], .bool (bN c.data.toList)]) ?_ rfl ⟨rfl, ?_⟩)
 all_goals first
  |(simp[results,results205,go_sem];done)
  |(simp[results,results205,go_sem];omega)
  |(simp[results,results205,go_sem, *];done)
  |skip
 all_goals try(repeat(first|exact Below.refl _ _|assumption|(with_reducible refine Below.drew ?_)|(with_reducible refine Below.setCell ?_ ?_ _)|(with_reducible refine Below.alloc ?_ ?_ _)))
 all_goals try(simp;done)
 all_goals try(simp;omega)
theorem Ln (a f i c b g:Int) (root d:ByteArray) (w:World) (h:d.size≤1073741824) (j:Int) (k:wrap64 (f-1)=j) (m:¬a=1) (n:¬a=2) (q:¬a=5) (o:¬a=3) (p:¬a=4):
  Calls prog 205 #[.agg #[.int .i64 a, .int .i64 f, .int .i64 i, .int .i64 c, .int .i64 b, .int .i64 g, .string root, .string d]] w
   fun e w'=>e= .returned (.tuple #[.agg #[.int .i64 0, .int .i64 0, .int .i64 0, .int .i64 c, .int .i64 b, .int .i64 g, .string root, .string d], .bool (false)])∧Below w.heap.size w w':=by
 skip
 go_enter func205,ntmps205;go_wp2_with (first|(go_at_call 206;refine(ct _ _ _).mono ?_;rintro e l ⟨rfl,rfl⟩)|(go_at_call 108;refine(fQ _ _ h).mono ?_;rintro e l ⟨rfl,rfl⟩))
 all_goals go_region
 all_goals go_wp2_with fail
 all_goals(refine bodyPost_ret (v:= .tuple #[.agg #[.int .i64 0, .int .i64 0, .int .i64 0, .int .i64 c, .int .i64 b, .int .i64 g, .string root, .string d], .bool (false)]) ?_ rfl ⟨rfl, ?_⟩)
 all_goals first
  |(simp[results,results205,go_sem];done)
  |(simp[results,results205,go_sem];omega)
  |(simp[results,results205,go_sem, *];done)
  |skip
 all_goals try(repeat(first|exact Below.refl _ _|assumption|(with_reducible refine Below.drew ?_)|(with_reducible refine Below.setCell ?_ ?_ _)|(with_reducible refine Below.alloc ?_ ?_ _)))
 all_goals try(simp;done)
 all_goals try(simp;omega)
end Go.Proofs.YtadooplpfhdhcaaGreat
