/- Walks of package hmac. Walks of hmac.Clash and hmac.Parts. Walks of octet.Text, octet.Put where it may not be, and package derive. Walk of derive.Said: what a key is made for, as bytes. Walks of hmac.Parts, derive.Key and derive.Long. -/
import Derived.Test.YtadooplpfhdhcaaGreatQ3
import Derived.Test.YtadooplpfhdhcaaGreatQ2
import Derived.Deep.Slices
import Derived.SliceStrings
import Derived.Carry
set_option linter.unusedSimpArgs false
set_option linter.unusedVariables false
set_option maxRecDepth 100000
set_option maxHeartbeats 4000000
namespace Go.Proofs.YtadooplpfhdhcaaGreat
open Go Go.RowKit
open Go.Lib (hid)
open Go.Proofs.Tryz
theorem ma (s:ByteArray) (w:World) (c:Nat) (hn:s.size≤536870912):
  Calls prog 67 #[.slice (some ⟨w.heap.size,0,none⟩) 1 c] (w.alloc (.cells #[.string s] 9)) fun e w'=>∃r,e= .returned (.string r)∧ah r (eh s.data.toList)∧Below w.heap.size w w':=by
 have hb:ac (w.alloc (.cells #[.string s] 9)) w.heap.size [.string s] 9:=ac.new w [.string s] _
 refine(CW w.heap.size 0 c [s] _ hb.lt ?_ ?_ (by simp)).mono ?_
 ·intro j x a
  rw[Nat.zero_add];refine hb.cell ?_
  cases j with
  |zero=>simp at a;subst a;rfl
  |succ j=>simp at a
 ·simp[dq];exact hn
 ·rintro e w' ⟨r,rfl,t,b⟩
  exact⟨r,rfl,t.cast (by simp[dq]),((Below.refl _ _).alloc (Nat.le_refl _) _).trans (b.mono (by simp))⟩
theorem vF (s t:ByteArray) (w:World) (c:Nat) (hn:s.size+t.size≤536870912):
  Calls prog 67 #[.slice (some ⟨w.heap.size,0,none⟩) 2 c] (w.alloc (.cells #[.string s, .string t] 9)) fun e w'=>∃r,e= .returned (.string r)∧ah r (eh (s.data.toList++t.data.toList))∧Below w.heap.size w w':=by
 have hb:ac (w.alloc (.cells #[.string s, .string t] 9)) w.heap.size [.string s, .string t] 9:=ac.new w [.string s, .string t] _
 refine(CW w.heap.size 0 c [s,t] _ hb.lt ?_ ?_ (by simp)).mono ?_
 ·intro j x a
  rw[Nat.zero_add];refine hb.cell ?_
  match j,a with
  |0,a=>simp at a;subst a;rfl
  |1,a=>simp at a;subst a;rfl
 ·simp[dq];exact hn
 ·rintro e w' ⟨r,rfl,t,b⟩
  exact⟨r,rfl,t.cast (by simp[dq]),((Below.refl _ _).alloc (Nat.le_refl _) _).trans (b.mono (by simp))⟩
theorem G0 (k:ByteArray) (w:World) (t:k.size≤16777216):
  Calls prog 306 #[.string k] w fun e w'=>∃r,e= .returned (.string r)∧ah r (cr k.data.toList)∧Below w.heap.size w w':=by
 have i:(k.size:Int)≤16777216:=by omega
 by_cases h:64<k.size
 ·have g:(64:Int)<k.size:=by omega
  go_enter func306,ntmps306;go_wp2_with fail
  refine(ma k _ _ (by omega)).mono ?_
  rintro e u ⟨r,rfl,d,hb⟩;have l:r.size=32:=by rw[d.size,cT]
  have n:r.size≤32:=by omega
  have o:32≤r.size:=by omega
  have f:(64:Int)-(r.size:Int)=((32:Nat):Int):=by omega
  clear l;go_wp2_with fail
  refine(kw 32 _ (by omega)).mono ?_
  rintro e q ⟨z,rfl,b,a⟩;have p:z.size≤32:=by rw[b.size];simp
  go_wp2_with fail;go_ret;refine⟨_,rfl,(d.append b).cast ?_,hb.trans (a.mono hb.size)⟩;unfold cr
  exact(if_pos (show 64<k.data.toList.length from h)).symm
 ·obtain⟨m,c⟩:∃m,Hid (m=64-k.size):=⟨_,rfl⟩
  have s:(64:Int)-(k.size:Int)=(m:Int):=by have:=c.out;omega
  have j:m≤64:=by have:=c.out;omega
  have g:(k.size:Int)≤64:=by omega
  go_enter func306,ntmps306;go_wp2_with fail
  refine(kw m _ (by omega)).mono ?_
  rintro e q ⟨z,rfl,b,a⟩;have p:z.size≤64:=by rw[b.size];simp;omega
  go_wp2_with fail;go_ret;refine⟨_,rfl,((ah.self k).append b).cast ?_,a⟩;unfold cr;rw[c.out]
  exact(if_neg (show¬64<k.data.toList.length from h)).symm
theorem I5 (c x:UInt8) (a:Addr) (w:World) (g:w.cell? a=some (.int .u8 ((x.toNat:Nat):Int))):
  Calls prog 308 #[.int .u8 ((c.toNat:Nat):Int), .pointer (some a)] w fun e w'=>e= .returned (.int .u8 (((c^^^x).toNat:Nat):Int))∧w=w':=by
 have b:=c.toNat_lt;have d:=x.toNat_lt
 have f:Hid (bits BinOp.xor IntKind.u8 ((c.toNat:Nat):Int) ((x.toNat:Nat):Int)=(((c^^^x).toNat:Nat):Int)):=by
  show _= _
  rw[u8_xor_nat _ _ (by simpa using b) (by simpa using d)];simp
 go_enter func308,ntmps308;go_wp2;go_ret;refine⟨?_,rfl⟩
 show Ending.returned (Value.int IntKind.u8 _)= _
 rw[←f.out]
def kS (l:List UInt8) (x:UInt8) (k:Nat):List UInt8:=(l.take k).map (fun c=>c^^^x)++l.drop k
theorem qH (l:List UInt8) (x:UInt8) (k:Nat):(kS l x k).length=l.length:=by simp[kS];omega
theorem I6 (l:List UInt8) (x:UInt8) (k:Nat) (h:k<l.length):(kS l x k)[k]?=some l[k]:=by
 unfold kS;rw[List.getElem?_append_right (by simp;omega)];simp[Nat.min_eq_left (Nat.le_of_lt h),h]
theorem G1 (l:List UInt8) (x:UInt8) (k:Nat) (h:k<l.length):(kS l x k).set k (l[k]^^^x)=kS l x (k+1):=by
 have e:l.drop k=l[k]::l.drop (k+1):=List.drop_eq_getElem_cons h;unfold kS;rw[e,List.set_append_right _ _ (by simp;omega),List.take_succ_eq_append_getElem h,List.map_append,List.append_assoc]
 congr 1
 simp only[List.length_map,List.length_take,Nat.min_eq_left (Nat.le_of_lt h),Nat.sub_self,List.set_cons_zero,List.map_cons,List.map_nil,List.cons_append,List.nil_append]
theorem G2 (j m g d:Nat) (l:List UInt8) (z:List Value) (x:UInt8) (w:World) (hl:l.length=64)
  (n:w.cell? ⟨j,0,none⟩=some (.slice (some ⟨g,0,none⟩) 64 d)) (h:w.cell? ⟨m,0,none⟩=some (.int .u8 ((x.toNat:Nat):Int))) (a:Row w g (bytesV l++z) 5) (q:g≠j) (r:g≠m):
  Calls prog 307 #[.func (.func 308) #[] #[.pointer (some ⟨m,0,none⟩)], .pointer (some ⟨j,0,none⟩)] w fun e w'=>e= .returned (.tuple #[])∧Row w' g (bytesV (l.map fun c=>c^^^x)++z) 5∧Kept g w w':=by
 have p:=hid hl;clear hl;have y:=hid a;clear a;have B:=hid h;clear h;have A:=hid n;clear n;go_enter func307,ntmps307;go_wp2_with fail;go_loopw [4] (fun i wr=>∃k:Nat,k≤64∧i= .int .i64 k∧wr.cell? ⟨j,0,none⟩=some (.slice (some ⟨g,0,none⟩) 64 d)∧wr.cell? ⟨m,0,none⟩=some (.int .u8 ((x.toNat:Nat):Int))∧Row wr g (bytesV (kS l x k)++z) 5∧Kept g w wr) (fun i _=>64-(intOf i).toNat)
 case atStart=>exact⟨0,by omega,rfl,A.out,B.out,by simpa[kS]using y.out,Kept.refl _ _⟩
 case round=>
  obtain⟨k,F,rfl,n,h,a,f⟩:=hrel
  by_cases s:k<64
  ·have v:(k:Int)<64:=by omega
   have b:k<l.length:=by rw[p.out];exact s
   obtain⟨c,t⟩:∃c,Hid (c=l[k]):=⟨l[k],(rfl:l[k]=l[k])⟩
   have E:wr.cell? ⟨g,k,none⟩=some (.int .u8 ((c.toNat:Nat):Int)):=by
    refine a.cell ?_
    have:=I6 l x k b
    obtain⟨u,C⟩:=List.getElem?_eq_some_iff.1 this;rw[List.getElem?_append_left (by rw[ax];exact u),eB _ _ u,C,←t.out]
   have D:wr.frozen? ⟨g,k,none⟩=false:=a.free (by rw[List.length_append,ax,qH];omega);have o:=hid a;clear a;go_wp2_with fail;refine aK 9 (by kernel_rfl) (by kernel_rfl) ?_;simp only[List.take_succ_cons,List.take_zero,List.drop_succ_cons,List.drop_zero]
   iterate 7 still_step
   still_call (eo (I5 c x _ _ h))
   iterate 1 still_step
   refine wpStill_nil ?_;go_wp2_with fail;go_roundw
   case rel=>
    refine⟨k+1,by omega,by go_num, ?_, ?_, ?_,(f.setCell _ _).drew⟩
    ·rw[←n];exact World.cell?_setCell_other _ _ _ _ (by intro e;injection e with e1;exact q e1)
    ·rw[←h];exact World.cell?_setCell_other _ _ _ _ (by intro e;injection e with e1;exact r e1)
    ·refine((o.set _ _).ext ?_).drew
     rw[show((c.toNat^^^x.toNat:Nat):Int)=(((c^^^x).toNat:Nat):Int) by simp,List.set_append_left _ _ (by rw[ax,qH];exact b),cU,t.out,G1 _ _ _ b]
   case measure=>simp[intOf];omega
  ·obtain rfl:k=64:=by omega
   have o:=hid a;clear a;go_wp2_with fail;go_end0;refine⟨rfl,o.ext ?_,f⟩;unfold kS;rw[List.take_of_length_le (by rw[p.out];exact Nat.le_refl _),List.drop_of_length_le (by rw[p.out];exact Nat.le_refl _),List.append_nil]
theorem G3 (w:World):Sem.run prog (zeroValue 147) w= .ok (.slice none 0 0) w:=by kernel_rfl
theorem qI (k:ByteArray) (x:UInt8) (w:World) (D:k.size≤16777216):
  Calls prog 291 #[.string k, .int .u8 ((x.toNat:Nat):Int)] w fun e w'=>∃r,e= .returned (.string r)∧ah r (lC k.data.toList x)∧Below w.heap.size w w':=by
 go_enter func291,ntmps291;go_wp2_with ((with_reducible refine aO 5 (.tmp 1) (.int .u8 ((x.toNat:Nat):Int)) rfl (some 3) ?hgd ?ho ?hd ?hx ?_);(case hgd|ho|hd|hx=>rfl);(intro f J F t B M))
 refine(G0 k _ D).mono ?_
 rintro e K ⟨r,rfl,q,c⟩;have E:Hid (r.size=64):=by show _= _;rw[q.size,nB]
 go_wp2_with (first
  |((with_reducible refine mT 9 147 5 (.tmp 8) r (some 9) underlying9 underlying147 underlying5 ?hgd ?ho ?hd ?hx ?_);(case hgd|ho|hd|hx=>rfl);(intro g a z L G u l N m);(rw[E.out]))
  |((with_reducible refine cd 147 (.slice none 0 0) G3 rfl (some 5) ?hgd ?ho ?hd ?_);(case hgd|ho|hd=>rfl);(intro b w5 H d h O);(have y:w5.cell? ⟨b,0,none⟩=some (.slice none 0 0):=d.cell rfl);(have C:w5.frozen? ⟨b,0,none⟩=false:=d.free 0)))
 have I:=c.size
 have n:Row (w5.setCell ⟨b,0,none⟩ (.slice (some ⟨g,0,none⟩) 64 a)) g (bytesV (cr k.data.toList)++z) 5:=by
  rw[←show r.data.toList=cr k.data.toList from q]
  exact(u.below h (by omega)).set_other (by show g≠b;omega) _
 have hx:(w5.setCell ⟨b,0,none⟩ (.slice (some ⟨g,0,none⟩) 64 a)).cell? ⟨f,0,none⟩=some (.int .u8 ((x.toNat:Nat):Int)):=
  ((((t.below c (by omega)).below l (by omega)).below h (by omega)).set_other (by show f≠b;omega) _).cell rfl
 have o:(w5.setCell ⟨b,0,none⟩ (.slice (some ⟨g,0,none⟩) 64 a)).cell? ⟨b,0,none⟩=some (.slice (some ⟨g,0,none⟩) 64 a):=(d.set 0 _).cell rfl
 refine(G2 b f g a (cr k.data.toList) z x _ (nB _) o hx n (by omega) (by omega)).mono ?_
 rintro e s ⟨rfl,j,p⟩;have A:s.cell? ⟨b,0,none⟩=some (.slice (some ⟨g,0,none⟩) 64 a):=(p.blk (d.set 0 _) (by omega)).cell rfl;have v:Hid (Row s g (bytesV (lC k.data.toList x)++z) 5):=j;clear j o hx n y C;go_wp2_with ((with_reducible refine dw 147 9 5 (.tmp 14) (lC k.data.toList x) g 0 64 a (some 15) underlying147 underlying5 underlying9 v.out.range (jY _ _).symm ?hgd ?ho ?hd ?hx ?_);(case hgd|ho|hd|hx=>rfl));go_ret;refine⟨_,rfl,ah.mk _, ?_⟩;have i:Below w.heap.size w w5:=(((B.mono F).trans (c.mono (by omega))).trans (l.mono (by omega))).trans (h.mono (by omega));exact p.below (i.setCell (by show w.heap.size≤b;omega) _) (by omega) (by simp;omega)
theorem G4 (k:ByteArray) (w:World) (a:k.size≤16777216):
  Calls prog 291 #[.string k, .int .u8 54] w fun e w'=>∃r,e= .returned (.string r)∧ah r (lC k.data.toList 0x36)∧Below w.heap.size w w':=qI k 0x36 w a
theorem G5 (k:ByteArray) (w:World) (a:k.size≤16777216):
  Calls prog 291 #[.string k, .int .u8 92] w fun e w'=>∃r,e= .returned (.string r)∧ah r (lC k.data.toList 0x5c)∧Below w.heap.size w w':=qI k 0x5c w a
theorem ES (k m:ByteArray) (w:World) (c:k.size≤16777216) (h:m.size≤16777216):
  Calls prog 263 #[.string k, .string m] w fun e w'=>∃r,e= .returned (.string r)∧ah r (tH k.data.toList m.data.toList)∧Below w.heap.size w w':=by
 go_enter func263,ntmps263;go_wp2_with fail
 refine(G5 k _ c).mono ?_
 rintro e n ⟨r,rfl,f,hb⟩;have j:r.size≤64:=by rw[f.size,jY];omega
 go_wp2_with fail
 refine(G4 k _ c).mono ?_
 rintro e o ⟨q,rfl,d,a⟩;have i:q.size≤64:=by rw[d.size,jY];omega
 go_wp2_with fail
 refine(vF q m _ _ (by omega)).mono ?_
 rintro e p ⟨s,rfl,g,b⟩;have l:s.size≤32:=by rw[g.size,cT];omega
 go_wp2_with fail;go_ret;refine⟨_,rfl,(f.append g).cast ?_,hb.trans ((a.trans (b.mono a.size)).mono hb.size)⟩;rw[d];rfl
theorem sR (k m:ByteArray) (w:World) (c:k.size≤16777216) (d:m.size≤16777216):
  Calls prog 209 #[.string k, .string m] w fun e w'=>∃r,e= .returned (.string r)∧ah r (rA k.data.toList m.data.toList)∧Below w.heap.size w w':=by
 go_enter func209,ntmps209;go_wp2_with fail
 refine(ES k m _ c d).mono ?_
 rintro e h ⟨r,rfl,b,hb⟩;have g:r.size≤96:=by rw[b.size,xH];omega
 go_wp2_with fail
 refine(ma r _ _ (by omega)).mono ?_
 rintro e i ⟨s,rfl,f,a⟩;go_wp2_with fail;go_ret;refine⟨_,rfl,f.cast ?_,hb.trans (a.mono hb.size)⟩;rw[b];rfl
theorem ah.toList {r:ByteArray} {l:List UInt8} (h:ah r l):r.toList=l:=(Lib.toList_data r).trans h
theorem ah.same {r b:ByteArray} {l a:List UInt8} (h:ah r l) (c:ah b a) (e:l=a):(r.toList==b.toList)=true:=by
 rw[h.toList,c.toList,e];simp
theorem ah.other {r b:ByteArray} {l a:List UInt8} (h:ah r l) (c:ah b a) (e:l≠a):(r.toList==b.toList)=false:=by
 rw[h.toList,c.toList];simpa using e
theorem ah.is {r:ByteArray} {l a:List UInt8} (h:ah r l) (e:l=a):(r.toList==a)=true:=by
 rw[h.toList,e];simp
theorem I7 (n:Int) (wd:Nat) (w:World) (c:1≤wd) (d:wd≤8) (hn:n<0):
  Calls prog 143 #[.int .i64 n, .int .i64 wd] w fun e w'=>e= .returned (.tuple #[.string ⟨#[]⟩, .int .i64 2])∧w=w':=by
 have a:(1:Int)≤wd:=by omega
 have b:(wd:Int)≤8:=by omega
 go_enter func143,ntmps143;go_wp2_with fail;go_ret2;exact⟨rfl,rfl⟩
theorem La (n:Nat) (h:n<4294967296):bits BinOp.and IntKind.i64 (n:Int) 4294967295=(n:Int):=by
 have:=bits_mask .i64 63 (by decide) (fun x a b=>by rw[IntKind.wrap_i64];omega) 32 (by decide) (n:Int) (by omega) (by omega)
 refine this.trans ?_;omega
theorem eY (s:ByteArray) (w:World) (c:s.size≤1073741824):
  Calls prog 160 #[.string s] w fun e w'=>∃r,e= .returned (.string r)∧ah r (cq s.data.toList)∧Below w.heap.size w w':=by
 obtain⟨n,a⟩:∃n,Hid (n=s.size):=⟨_,rfl⟩;have d:bits BinOp.and IntKind.i64 ((s.size:Nat):Int) 4294967295=(n:Int):=by rw[a.out];exact La s.size (by omega)
 have hn:n≤1073741824:=by rw[a.out];exact c
 go_enter func160,ntmps160;go_wp2_with fail
 refine(sF n 4 _ (by omega) (by omega) (by omega) (by omega)).mono ?_
 rintro e g ⟨r,rfl,b,hb⟩;have f:r.size≤4:=by rw[b.size,beBytes_length];omega
 go_wp2_with fail;go_ret;refine⟨_,rfl,(b.append (ah.self s)).cast ?_,hb⟩;rw[a.out];rfl
def bC (w:World) (v:Value) (xs:List Int):Prop:=
 (xs=[]∧∃(p:Option Addr) (c:Nat),v= .slice p 0 c)∨
 ∃g o c,v= .slice (some ⟨g,o,none⟩) xs.length c∧g<w.heap.size∧∀(j:Nat) (x:Int),xs[j]?=some x→w.cell? ⟨g,o+j,none⟩=some (.int .i64 x)
theorem bC.below {w a:World} {v:Value} {xs:List Int} (h:bC w v xs) {B:Nat} (hb:Below B w a) (d:w.heap.size≤B):bC a v xs:=by
 rcases h with h|⟨g,o,c,h1,h2,h3⟩
 ·exact .inl h
 ·exact .inr ⟨g,o,c,h1,by have:=hb.size;omega,fun j x b=>by rw[hb.cell (by show g<B;omega)];exact h3 j x b⟩
theorem bC.nil (w:World):bC w (.slice none 0 0) []:= .inl ⟨rfl,_,_,rfl⟩
def vG (label:List UInt8) (xs:List Int) (e:Ending):Prop:=
 (dI label xs=true∧∃r,e= .returned (.tuple #[.string r, .int .i64 0])∧ah r (lF label (xs.map Int.toNat)))∨
 (dI label xs=false∧e= .returned (.tuple #[.string ⟨#[]⟩, .int .i64 2]))
def gJ (label:List UInt8) (xs:List Int) (k:Nat):List UInt8:=cq label++[UInt8.ofNat xs.length]++((xs.take k).map Int.toNat).flatMap (beBytes 8)
theorem rV (a:List UInt8) (xs:List Int):gJ a xs 0=cq a++[UInt8.ofNat xs.length]:=by simp[gJ]
theorem CB (a:List UInt8) (xs:List Int) (k:Nat) (x:Int) (h:xs[k]?=some x):gJ a xs (k+1)=gJ a xs k++beBytes 8 x.toNat:=by
 obtain⟨b,rfl⟩:=List.getElem?_eq_some_iff.1 h;unfold gJ;rw[List.take_succ_eq_append_getElem b,List.map_append,List.flatMap_append];simp
theorem ET (a:List UInt8) (xs:List Int):gJ a xs xs.length=lF a (xs.map Int.toNat):=by simp[gJ,lF]
theorem pB (a:List UInt8) (xs:List Int) (k:Nat):(gJ a xs k).length≤5+a.length+8*xs.length:=by
 unfold gJ;rw[List.length_append,List.length_append,ch,mU,List.length_map,List.length_take,List.length_singleton];omega
theorem xm {a:List UInt8} {xs:List Int} (b:1≤a.length) (c:a.length≤16) (d:xs.length≤8) (e:∀(i:Nat) (x:Int),xs[i]?=some x→0≤x):dI a xs=true:=by
 simp only[dI,Bool.and_eq_true,decide_eq_true_eq,List.all_eq_true];refine⟨⟨⟨b,c⟩,d⟩,fun x g=> ?_⟩;obtain⟨i,f⟩:=List.mem_iff_getElem?.1 g;exact e i x f
theorem Aj {a:List UInt8} {xs:List Int} (h:a.length<1):dI a xs=false:=by
 have:decide (1≤a.length)=false:=by simpa using h
 simp[dI];omega
theorem Ak {a:List UInt8} {xs:List Int} (h:16<a.length):dI a xs=false:=by
 have:decide (a.length≤16)=false:=by simpa using h
 simp[dI,this]
theorem I8 {a:List UInt8} {xs:List Int} (h:8<xs.length):dI a xs=false:=by
 have:decide (xs.length≤8)=false:=by simpa using h
 simp[dI,this]
theorem I9 {a:List UInt8} {xs:List Int} {i:Nat} {x:Int} (b:xs[i]?=some x) (h:x<0):dI a xs=false:=by
 have:xs.all (fun n=>decide (0≤n))=false:=by
  rw[List.all_eq_false];exact⟨x,List.mem_iff_getElem?.2 ⟨i,b⟩,by simpa using h⟩
 simp[dI,this]
theorem emptyText {s:ByteArray} (h:s.size<1):s.toList=[]:=by
 rw[Lib.toList_data];exact List.eq_nil_of_length_eq_zero (by show s.size=0;omega)
theorem kE {s:ByteArray} (h:1≤s.size):s.toList.isEmpty=false:=by
 rw[Lib.toList_data]
 cases e:s.data.toList with
 |nil=>have:s.size=0:=by show s.data.toList.length=0;rw[e];rfl
       omega
 |cons a b=>rfl
theorem Ja (a:ByteArray) (p:Option Addr) (c:Nat) (w:World):
  Calls prog 181 #[.string a, .slice p 0 c] w fun e w'=>vG a.data.toList ([]:List Int) e∧Below w.heap.size w w':=by
 by_cases D:a.size<1
 ·have J:=emptyText D
  go_enter func181,ntmps181;go_wp2_with fail;go_ret2;exact⟨.inr ⟨Aj (show a.data.toList.length<1 from D),rfl⟩,Below.refl _ _⟩
 ·have J:=kE (s:=a) (by omega)
  by_cases I:16<a.size
  ·have K:(16:Int)<a.size:=by omega
   go_enter func181,ntmps181;go_wp2_with fail;go_ret2;exact⟨.inr ⟨Ak (show 16<a.data.toList.length from I),rfl⟩,Below.refl _ _⟩
  ·have K:(a.size:Int)≤16:=by omega
   have L:(cq a.data.toList).length≤20:=by rw[ch];show 4+a.size≤20;omega
   go_enter func181,ntmps181;go_wp2_with ((with_reducible refine ab 149 _ kN (some 6) ?hgd ?ho ?hd ?_);(case hgd|ho|hd=>rfl);(intro b U v C E X))
   refine(eY a _ (by omega)).mono ?_
   rintro e P ⟨r,rfl,B,f⟩;have m:gU P b []:=(gU.new C).below f;have T:r.size≤20:=by rw[B.size];exact L
   clear C;have y:=hid m;clear m;go_wp2_with fail
   refine(iG b [] r _ y.out (by simp;omega)).mono ?_
   rintro e V ⟨rfl,n,j⟩;have z:=hid n;clear n;go_wp2_with fail
   refine(pr b _ _ _ z.out ?_ ?_ ?_).mono ?_
   ·omega
   ·omega
   ·rw[List.nil_append,show r.data.toList= _ from B];omega
   rintro e w4 ⟨rfl,o,t⟩
   have l:Hid (gU w4 b (gJ a.data.toList ([]:List Int) 0)):=by
    show gU w4 b _
    rw[rV,←show r.data.toList= _ from B]
    have:=o
    simpa using this
   clear o;have M:=f.size;have N:=j.size;have d:Below w.heap.size w w4:=((((E.mono v).trans (f.mono (by omega))).trans (j.mono v)).trans (t.mono v));clear E f j t M N;go_wp2_with fail;go_loopw [32] (fun i wr=>∃k:Nat,k≤0∧i= .int .i64 k∧gU wr b (gJ a.data.toList ([]:List Int) k)∧Below w.heap.size w wr∧∀(i:Nat) (x:Int),i<k→([]:List Int)[i]?=some x→0≤x) (fun i _=>0-(intOf i).toNat)
   case atStart=>exact⟨0,by omega,rfl,l.out,d,fun i x h=>by omega⟩
   case round=>
    clear l d;obtain⟨k,S,rfl,F,d,g⟩:=hrel;have G:=hid F;clear F;have R:=hid g;clear g;have Q:=hid (pB a.data.toList ([]:List Int) k);have u:a.data.toList.length=a.size:=rfl;have H:=hid u;clear u;obtain rfl:k=0:=by omega
    go_wp2_with fail
    refine(oJ b _ _ G.out).mono ?_
    rintro e W ⟨q,rfl,O,A⟩;go_wp2_with fail;go_ret2;exact⟨.inl ⟨xm (show 1≤a.size by omega) (show a.size≤16 by omega) (by simp) (fun i x h=>by simp at h),q,rfl,O.cast rfl⟩,d.trans (A.mono v)⟩
theorem Jb (a:ByteArray) (g o c:Nat) (xs:List Int) (w:World) (hg:g<w.heap.size) (hc:∀(j:Nat) (x:Int),xs[j]?=some x→w.cell? ⟨g,o+j,none⟩=some (.int .i64 x)) (X:∀(j:Nat) (x:Int),xs[j]?=some x→x<9223372036854775808) (a8:xs.length≤1073741824):
  Calls prog 181 #[.string a, .slice (some ⟨g,o,none⟩) xs.length c] w fun e w'=>vG a.data.toList xs e∧Below w.heap.size w w':=by
 have Hc:=hid hc;clear hc;have Hx:=hid X;clear X
 by_cases T:a.size<1
 ·have d1:=emptyText T
  go_enter func181,ntmps181;go_wp2_with fail;go_ret2;exact⟨.inr ⟨Aj (show a.data.toList.length<1 from T),rfl⟩,Below.refl _ _⟩
 ·have d1:=kE (s:=a) (by omega)
  by_cases c2:16<a.size
  ·have d2:(16:Int)<a.size:=by omega
   go_enter func181,ntmps181;go_wp2_with fail;go_ret2;exact⟨.inr ⟨Ak (show 16<a.data.toList.length from c2),rfl⟩,Below.refl _ _⟩
  ·have d2:(a.size:Int)≤16:=by omega
   by_cases c3:8<xs.length
   ·have d3:(8:Int)<xs.length:=by omega
    go_enter func181,ntmps181;go_wp2_with fail;go_ret2;exact⟨.inr ⟨I8 c3,rfl⟩,Below.refl _ _⟩
   ·have d3:(xs.length:Int)≤8:=by omega
    have hT:(cq a.data.toList).length≤20:=by rw[ch];show 4+a.size≤20;omega
    go_enter func181,ntmps181;go_wp2_with ((with_reducible refine ab 149 _ kN (some 6) ?hgd ?ho ?hd ?_);(case hgd|ho|hd=>rfl);(intro b w1 H Q U z1))
    refine(eY a _ (by omega)).mono ?_
    rintro e w2 ⟨r,rfl,P,l⟩;have B:gU w2 b []:=(gU.new Q).below l;have hr:r.size≤20:=by rw[P.size];exact hT
    clear Q;have I:=hid B;clear B;go_wp2_with fail
    refine(iG b [] r _ I.out (by simp;omega)).mono ?_
    rintro e w3 ⟨rfl,C,v⟩;have J:=hid C;clear C;go_wp2_with fail
    refine(pr b _ _ _ J.out ?_ ?_ ?_).mono ?_
    ·omega
    ·omega
    ·rw[List.nil_append,show r.data.toList= _ from P];omega
    rintro e w4 ⟨rfl,D,F⟩
    have A:Hid (gU w4 b (gJ a.data.toList xs 0)):=by
     show gU w4 b _
     rw[rV,←show r.data.toList= _ from P]
     have:=D
     simpa using this
    clear D;have q2:=l.size;have q3:=v.size;have d:Below w.heap.size w w4:=((((U.mono H).trans (l.mono (by omega))).trans (v.mono H)).trans (F.mono H));clear U l v F q2 q3;go_wp2_with fail;go_loopw [32] (fun i wr=>∃k:Nat,k≤xs.length∧i= .int .i64 k∧gU wr b (gJ a.data.toList xs k)∧Below w.heap.size w wr∧∀(i:Nat) (x:Int),i<k→xs[i]?=some x→0≤x) (fun i _=>xs.length-(intOf i).toNat)
    case atStart=>exact⟨0,by omega,rfl,A.out,d,fun i x h=>by omega⟩
    case round=>
     clear A d;obtain⟨k,hk,rfl,V,d,u⟩:=hrel;have R:=hid V;clear V;have S:=hid u;clear u;have HL:=hid (pB a.data.toList xs k);have G:a.data.toList.length=a.size:=rfl;have L:=hid G;clear G
     by_cases O:k<xs.length
     ·have W:(k:Int)<xs.length:=by omega
      obtain⟨x,m⟩:∃x,xs[k]?=some x:=⟨_,List.getElem?_eq_getElem O⟩
      have ck:wr.cell? ⟨g,o+k,none⟩=some (.int .i64 x):=by
       rw[d.cell (by show g<w.heap.size;exact hg)];exact Hc.out k x m
      have Y:=Hx.out k x m;have M:=hid m;clear m
      by_cases t:x<0
      ·go_wp2_with fail
       refine(I7 x 8 _ (by omega) (by omega) t).mono ?_
       rintro e w5 ⟨rfl,rfl⟩;go_wp2_with fail;go_ret2;exact⟨.inr ⟨I9 M.out t,rfl⟩,d⟩
      ·obtain⟨n,hn⟩:∃n:Nat,x=(n:Int):=⟨x.toNat,by omega⟩
       subst hn;go_wp2_with fail
       refine(sF n 8 _ (by omega) (by omega) (by omega) (by omega)).mono ?_
       rintro e w5 ⟨p,rfl,tp,f⟩;have hp:p.size≤8:=by rw[tp.size,beBytes_length];omega
       go_wp2_with fail
       refine(iG b _ p _ (R.below f) (by have:=HL.out;have:=L.out;omega)).mono ?_
       rintro e w6 ⟨rfl,E,N⟩;have K:=hid E;clear E;have q5:=f.size;have Z:=d.size;have z:Below w.heap.size w w6:=(d.trans (f.mono Z)).trans (N.mono H);clear q5 Z;go_wp2_with fail;go_roundw
       case rel=>
        refine⟨k+1,by omega,by go_num, ?_,z, ?_⟩
        ·rw[CB _ _ _ _ M.out,Int.toNat_natCast,←show p.data.toList= _ from tp];exact K.out
        ·intro i y hi hy
         by_cases e:i=k
         ·rw[e]at hy
          have h2:=Option.some.inj (M.symm.trans hy);omega
         ·exact S.out i y (by omega) hy
       case measure=>simp[intOf];omega
     ·obtain rfl:k=xs.length:=by omega
      go_wp2_with fail
      refine(oJ b _ _ R.out).mono ?_
      rintro e w5 ⟨q,rfl,tq,f⟩;go_wp2_with fail;go_ret2;refine⟨.inl ⟨xm (show 1≤a.size by omega) (show a.size≤16 by omega) (by omega) (fun i x h=>S.out i x (List.getElem?_eq_some_iff.1 h).1 h),q,rfl,tq.cast (ET _ _)⟩,d.trans (f.mono H)⟩
theorem xn (a:ByteArray) (v:Value) (xs:List Int) (w:World) (h:bC w v xs) (d:∀(j:Nat) (x:Int),xs[j]?=some x→x<9223372036854775808) (b:xs.length≤1073741824):
  Calls prog 181 #[.string a,v] w fun e w'=>vG a.data.toList xs e∧Below w.heap.size w w':=by
 rcases h with⟨rfl,p,c,rfl⟩|⟨g,o,c,rfl,hg,hc⟩
 ·exact Ja a p c w
 ·exact Jb a g o c xs w hg hc d b
theorem xp (xs:List ByteArray):Lib.join (xs.map (·.data.toList)) []=dq xs:=by
 unfold Lib.join dq
 induction xs with
 |nil=>rfl
 |cons a r ih=>
  cases r with
  |nil=>simp[List.intercalate]
  |cons b t=>
   simp only[List.intercalate,List.map_cons,List.intersperse_cons_cons,List.flatten_cons,List.nil_append,List.flatMap_cons]at ih ⊢;rw[ih]
theorem G6 (k:ByteArray) (g o c:Nat) (xs:List ByteArray) (w:World) (l:k.size≤16777216) (i:g<w.heap.size) (hc:∀(j:Nat) (x:ByteArray),xs[j]?=some x→w.cell? ⟨g,o+j,none⟩=some (.string x))
  (b:xs.length≤c) (hl:xs.length≤1073741824) (hn:(dq xs).length≤16777216):
  Calls prog 183 #[.string k, .slice (some ⟨g,o,none⟩) xs.length c] w fun e w'=>∃r,e= .returned (.string r)∧ah r (rA k.data.toList (dq xs))∧Below w.heap.size w w':=by
 have f:=hid hc;clear hc;go_enter func183,ntmps183;go_wp2_with fail
 refine(strings_Join g o c xs ⟨#[]⟩ _ f.out i (by omega) b (by show(Lib.join _ []).length≤_;rw[xp];omega)).mono ?_
 rintro e q ⟨rfl,a⟩;have h:Lib.join (xs.map (·.data.toList)) (⟨#[]⟩:ByteArray).data.toList=dq xs:=xp xs;rw[h];obtain⟨m,rfl,n⟩:∃m:ByteArray,m=⟨(dq xs).toArray⟩∧ah m (dq xs):=⟨_,rfl,ah.mk _⟩;go_wp2_with fail
 refine(sR k ⟨(dq xs).toArray⟩ _ l (by rw[n.size];exact hn)).mono ?_
 rintro e s ⟨r,rfl,p,d⟩;go_wp2_with fail;go_ret;exact⟨r,rfl,p,a.trans (d.mono a.size)⟩
theorem EU:(prog.info? 9).map (fun i=>(i.zero,i.size,i.bytes))=some (some (.string ⟨#[]⟩),1,16):=by kernel_rfl
theorem G7 (k:ByteArray) (g n c:Nat) (xs:List ByteArray) (t:TypeId) (w:World) (d:k.size≤16777216) (hb:ac w g (xs.map Value.string) t) (b:n=xs.length)
  (a:xs.length≤c) (hl:xs.length≤1073741824) (hn:(dq xs).length≤16777216):
  Calls prog 183 #[.string k, .slice (some ⟨g,0,none⟩) n c] w fun e w'=>∃r,e= .returned (.string r)∧ah r (rA k.data.toList (dq xs))∧Below w.heap.size w w':=by
 subst b;refine G6 k g 0 c xs w d hb.lt ?_ a hl hn;intro j x f;rw[Nat.zero_add];exact hb.cell (by simp[f])
def Lc (master label:List UInt8) (xs:List Int) (e:Ending):Prop:=
 (dI label xs=true∧∃r,e= .returned (.tuple #[.string r, .int .i64 0])∧ah r (rA master (lF label (xs.map Int.toNat))))∨
 (dI label xs=false∧e= .returned (.tuple #[.string ⟨#[]⟩, .int .i64 2]))
theorem uF {a:List UInt8} {xs:List Int} (h:dI a xs=true):a.length≤16∧xs.length≤8∧1≤a.length∧∀n∈xs,0≤n:=by
 simp only[dI,Bool.and_eq_true,decide_eq_true_eq,List.all_eq_true]at h;exact⟨h.1.1.2,h.1.2,h.1.1.1,h.2⟩
theorem Jc (a b:ByteArray) (v:Value) (xs:List Int) (w:World) (s:a.size≤16777216) (h:bC w v xs) (l:∀(j:Nat) (x:Int),xs[j]?=some x→x<9223372036854775808) (k:xs.length≤1073741824):
  Calls prog 184 #[.string a, .string b,v] w fun e w'=>Lc a.data.toList b.data.toList xs e∧Below w.heap.size w w':=by
 have p:=hid l;clear l;have H:=hid h;clear h;go_enter func184,ntmps184;go_wp2_with fail
 refine(xn b v xs _ H.out p.out k).mono ?_
 rintro e y ⟨⟨d,r,rfl,m⟩|⟨g,rfl⟩,c⟩
 ·have f:=uF d
  have u:r.size≤85:=by rw[m.size,pV,List.length_map];omega
  have n:=hid d;clear d f;go_wp2_with fail
  refine(sR a r _ s (by omega)).mono ?_
  rintro e z ⟨q,rfl,t,i⟩;go_wp2_with fail;go_ret2;exact⟨.inl ⟨n.out,q,rfl,t.cast (by rw[m])⟩,c.trans (i.mono c.size)⟩
 ·have o:=hid g;clear g
  go_wp2_with fail;go_ret2;exact⟨.inr ⟨o.out,rfl⟩,c⟩
theorem G8 (l h m po:Nat) (b d f k:ByteArray) (i:Nat) (w:World) (Y:b.size≤16777216) (hs:d.size≤100) (an:f.size≤32) (ho:k.size≤1073741824) (hi:i<255)
  (u:ac w l [.string b] 9) (x:ac w h [.string f] 9) (v:ac w m [.string d] 9) (F:ac w po [.string k] 9) (p:h≠po∧h≠l∧h≠m∧po≠l∧po≠m):
  Calls prog 182 #[.int .i64 i, .pointer (some ⟨l,0,none⟩), .pointer (some ⟨h,0,none⟩), .pointer (some ⟨m,0,none⟩), .pointer (some ⟨po,0,none⟩)] w fun e w'=>
   e= .returned (.tuple #[])∧∃q,ah q (piece b.data.toList d.data.toList f.data.toList i)∧ac w' l [.string b] 9∧ac w' h [.string q] 9∧ac w' m [.string d] 9∧ac w' po [.string (k++q)] 9∧
    ∀B a,Below B a w→B≤h→B≤po→B≤w.heap.size→Below B a w':=by
 have X:(i:Int)<255:=by omega
 have O:=u.cell (i:=0) rfl;have Q:=x.cell (i:=0) rfl;have cs:=v.cell (i:=0) rfl;have G:=hid u;clear u;have J:=hid x;clear x;have I:=hid v;clear v;have H:=hid F;clear F;obtain⟨c,K⟩:∃c,Hid (c=UInt8.ofNat (i+1)):=⟨_,rfl⟩;have L:((i:Int)+1)=(((c.toNat:Nat)):Int):=by rw[K.out];simp;omega
 have N:=hid L;clear L;go_enter func182,ntmps182
 go_wp2_with (first
  |((with_reducible refine bi 147 5 1 ?parts [.int .u8 ((i:Int)+1)] (.int .u8 0) 1 1 (some 12) underlying147 infoByte (by omega) (by omega) ?hgd ?ho ?hd ?hf ?_);(case hgd|ho|hd=>rfl);(case hf=>kernel_rfl);(intro g w1 l1 D r z1);(have y:Hid (ac w1 g (bytesV [c]) 5):=D.ext (by rw[N.out];rfl));(clear D))
  |((with_reducible refine dw 147 9 5 (.tmp 12) [c] g 0 1 1 (some 13) underlying147 underlying5 underlying9 y.out.range (List.length_singleton (a:=c)).symm ?hgd ?ho ?hd ?hx ?_);(case hgd|ho|hd|hx=>rfl))
  |((with_reducible refine bi 45 9 3 ?parts2 [.string f, .string d,str [c]] (.string ⟨#[]⟩) 1 16 (some 14) underlying45 EU (by omega) (by omega) ?hgd ?ho ?hd ?hf ?_);(case hgd|ho|hd=>rfl);(case hf=>kernel_rfl);(intro V w2 l2 E s z2)))
 refine(G7 b V 3 3 [f,d,⟨[c].toArray⟩] _ _ Y E rfl (by simp) (by simp) ?_).mono ?_
 ·simp[dq];show f.size+(d.size+1)≤_;omega
 rintro e t ⟨q,rfl,M,j⟩;have q0:=J.lt;have q1:=H.lt;have q2:=I.lt;have q3:=G.lt;have o:Hid (ac t h [.string f] 9):=((J.below r (by omega)).below s (by omega)).below j (by omega);have n:Hid (ac t po [.string k] 9):=((H.below r (by omega)).below s (by omega)).below j (by omega);have C:Hid (ac t m [.string d] 9):=((I.below r (by omega)).below s (by omega)).below j (by omega);have z:Hid (ac t l [.string b] 9):=((G.below r (by omega)).below s (by omega)).below j (by omega);have R:=o.cell (i:=0) rfl;have U:=o.free 0;have P:=n.cell (i:=0) rfl;have T:=n.free 0;have ad:¬h=po:=p.1;have Z:q.size≤32:=by rw[M.size,lE];omega
 have A:=hid p;clear p;clear O Q cs E;go_wp2_with fail;go_end0;have hn:=A.out
 have S:piece b.data.toList d.data.toList f.data.toList i=rA b.data.toList (dq [f,d,⟨[c].toArray⟩]):=by
  unfold piece;rw[←K.out];simp[dq]
 refine⟨rfl,q,M.cast S.symm, ?_, ?_, ?_, ?_, ?_⟩
 ·exact(z.set_other (by show l≠h;omega) _).set_other (by show l≠po;omega) _
 ·exact(o.set 0 _).set_other (by show h≠po;omega) _
 ·exact(C.set_other (by show m≠h;omega) _).set_other (by show m≠po;omega) _
 ·exact(n.set_other (by show po≠h;omega) _).set 0 _
 ·intro B a W b1 b2 b3
  have y1:=r.size;have y2:=s.size
  exact((((W.trans (r.mono (by omega))).trans (s.mono (by omega))).trans (j.mono (by omega))).setCell (by show B≤h;omega) _).setCell (by show B≤po;omega) _
theorem lS (w:World):Sem.run prog (zeroValue 9) w= .ok (.string ⟨#[]⟩) w:=by kernel_rfl
def Kr (master label:List UInt8) (n:Int) (e:Ending):Prop:=
 (0≤n∧n≤8160∧dI label []=true∧∃r,e= .returned (.tuple #[.string r, .int .i64 0])∧ah r (qT master label n.toNat))∨
 ((n<0∨8160<n∨dI label []=false)∧e= .returned (.tuple #[.string ⟨#[]⟩, .int .i64 2]))
theorem G9 (b c:ByteArray) (n:Int) (w:World) (hm:b.size≤16777216):
  Calls prog 90 #[.string b, .string c, .int .i64 n] w fun e w'=>Kr b.data.toList c.data.toList n e∧Below w.heap.size w w':=by
 by_cases c1:n<0
 ·go_enter func90,ntmps90
  go_wp2_with ((with_reducible refine aO 9 (.tmp 0) (.string b) rfl (some 3) ?hgd ?ho ?hd ?hx ?_);(case hgd|ho|hd|hx=>rfl);(intro s w1 B Q y Z));go_ret2;exact⟨.inr ⟨.inl c1,rfl⟩,y.mono B⟩
 ·by_cases c2:8160<n
  ·have H:0≤n:=by omega
   go_enter func90,ntmps90;go_wp2_with ((with_reducible refine aO 9 (.tmp 0) (.string b) rfl (some 3) ?hgd ?ho ?hd ?hx ?_);(case hgd|ho|hd|hx=>rfl);(intro s w1 B Q y Z));go_ret2;exact⟨.inr ⟨.inr (.inl c2),rfl⟩,y.mono B⟩
  ·obtain⟨m,rfl⟩:∃m:Nat,n=(m:Int):=⟨n.toNat,by omega⟩
   have H:(0:Int)≤(m:Int):=by omega
   have ad:(m:Int)≤8160:=by omega
   obtain⟨q,U⟩:∃q,Hid (q=(m+31)/32):=⟨_,rfl⟩;have eq:((m:Int)+32-1)/32=(q:Int):=by rw[U.out];omega
   have hq:q≤255:=by rw[U.out];omega
   go_enter func90,ntmps90;go_wp2_with ((with_reducible refine aO 9 (.tmp 0) (.string b) rfl (some 3) ?hgd ?ho ?hd ?hx ?_);(case hgd|ho|hd|hx=>rfl);(intro s w1 B Q y Z))
   refine(xn c _ [] _ (bC.nil _) (fun j x h=>by simp at h) (by simp)).mono ?_
   rintro e w2 ⟨⟨A,r,rfl,tr⟩|⟨K,rfl⟩,o⟩
   ·have hr:r.size≤21:=by rw[tr.size,pV];have:=(uF A).1;have e:c.data.toList.length=c.size:=rfl;simp;omega
    have HK:=hid A;clear A;have BM:Hid (ac w2 s [.string b] 9):=Q.below o Z;clear Q
    go_wp2_with (first
     |((with_reducible refine cd 9 (.string ⟨#[]⟩) lS rfl (some 8) ?hgd ?ho ?hd ?_);(case hgd|ho|hd=>rfl);(intro g N l3 v I z3);(have cs:=v.cell (i:=0) rfl);(have fs:=v.free 0))
     |((with_reducible refine cd 9 (.string ⟨#[]⟩) lS rfl (some 10) ?hgd ?ho ?hd ?_);(case hgd|ho|hd=>rfl);(intro l w4 l4 R X z4))
     |((with_reducible refine cd 9 (.string ⟨#[]⟩) lS rfl (some 11) ?hgd ?ho ?hd ?_);(case hgd|ho|hd=>rfl);(intro pw P l5 T z z5);(have co:=(R.below z (by omega)).cell (i:=0) rfl);(have fo:=(R.below z (by omega)).free 0);(have cw:=T.cell (i:=0) rfl);(have fw:=T.free 0)))
    have y2:=o.size;have y3:N.heap.size=(N.setCell ⟨g,0,none⟩ (.string r)).heap.size:=by simp
    have D:Hid (ac ((P.setCell ⟨l,0,none⟩ (.string ⟨#[]⟩)).setCell ⟨pw,0,none⟩ (.string ⟨#[]⟩)) s [.string b] 9):=by
     have Y:=(BM.below I (by omega)).set_other (a:=⟨g,0,none⟩) (by show s≠g;omega) (.string r)
     exact(((Y.below X (by omega)).below z (by omega)).set_other (by show s≠l;omega) _).set_other (by show s≠pw;omega) _
    have F:Hid (ac ((P.setCell ⟨l,0,none⟩ (.string ⟨#[]⟩)).setCell ⟨pw,0,none⟩ (.string ⟨#[]⟩)) g [.string r] 9):=by
     have Y:ac (N.setCell ⟨g,0,none⟩ (.string r)) g [.string r] 9:=v.set 0 _;have cv:g<(N.setCell ⟨g,0,none⟩ (.string r)).heap.size:=Y.lt
     exact(((Y.below X (by omega)).below z (by omega)).set_other (by show g≠l;omega) _).set_other (by show g≠pw;omega) _
    have E:Hid (ac ((P.setCell ⟨l,0,none⟩ (.string ⟨#[]⟩)).setCell ⟨pw,0,none⟩ (.string ⟨#[]⟩)) l [.string ⟨#[]⟩] 9):=
     ((R.below z (by omega)).set 0 _).set_other (by show l≠pw;omega) _
    have G:Hid (ac ((P.setCell ⟨l,0,none⟩ (.string ⟨#[]⟩)).setCell ⟨pw,0,none⟩ (.string ⟨#[]⟩)) pw [.string ⟨#[]⟩] 9):=
     (T.set_other (by show pw≠l;omega) _).set 0 _
    have d:Below w.heap.size w ((P.setCell ⟨l,0,none⟩ (.string ⟨#[]⟩)).setCell ⟨pw,0,none⟩ (.string ⟨#[]⟩)):=
     (((((((y.mono B).trans (o.mono (by omega))).trans (I.mono (by omega))).setCell (by show w.heap.size≤g;omega) _).trans (X.mono (by omega))).trans (z.mono (by omega))).setCell (by show w.heap.size≤l;omega) _).setCell (by show w.heap.size≤pw;omega) _
    have ci:w.heap.size≤s∧s<g∧g<l∧l<pw:=by omega
    have u:=hid d;clear d v R T y I X z o cs fs co fo cw fw y3 y2 B l3 l4 l5 Z z3 z4 z5 BM;obtain⟨S,HS⟩:∃S,Hid (S=lF c.data.toList []):=⟨_,rfl⟩;have L:ah r S:=by rw[HS.out];exact tr
    clear tr;rw[eq];clear eq;go_loopw [33] (fun i wr=>∃(k:Nat) (t f:ByteArray),k≤q∧i= .int .i64 k∧ah t (nW b.data.toList S k)∧ah f (pieces b.data.toList S k)∧ac wr s [.string b] 9∧ac wr pw [.string t] 9∧ac wr g [.string r] 9∧ac wr l [.string f] 9∧Below w.heap.size w wr) (fun i _=>q-(intOf i).toNat)
    case atStart=>exact⟨0,⟨#[]⟩,⟨#[]⟩,by omega,rfl,ah.mk [],ah.mk [],D.out,G.out,F.out,E.out,u.out⟩
    case round=>
     clear D G F E u;obtain⟨k,t,f,hk,rfl,tw,C,bm,bw,bs,V,d⟩:=hrel
     have sw:t.size≤32:=by
      rw[tw.size]
      cases k with
      |zero=>simp[nW]
      |succ k=>rw[nX];omega
     have so:f.size=32*k:=by rw[C.size,pq]
     have cz:f.size≤8160:=by omega
     have SO:=hid so;clear so;have cu:l<wr.heap.size:=V.lt;have an:=V.cell (i:=0) rfl;have M:=hid bm;clear bm;have W:=hid bw;clear bw;have S1:=hid bs;clear bs;have O:=hid V;clear V
     by_cases ck:k<q
     ·have a8:(k:Int)<q:=by omega
      go_wp2_with fail
      refine(G8 s pw g l b r t f k _ hm (by omega) sw (by omega) (by omega) M.out W.out S1.out O.out (by omega)).mono ?_
      rintro e w6 ⟨rfl,p,tp,m6,b6,s6,o6,J⟩;have H6:Hid (Below w.heap.size w w6):=J _ _ d (by omega) (by omega) (by have:=d.size;omega);have M6:=hid m6;have W6:=hid b6;have S6:=hid s6;have O6:=hid o6;clear m6 b6 s6 o6 J an;go_wp2_with fail;go_roundw
      case rel=>
       refine⟨k+1,p,f++p,by omega,by go_num, ?_, ?_,M6.out,W6.out,S6.out,O6.out,H6.out⟩
       ·refine tp.cast ?_
        rw[L,tw];rfl
       ·refine(C.append tp).cast ?_
        rw[L,tw];rfl
      case measure=>simp[intOf];omega
     ·obtain rfl:k=q:=by omega
      have cm:(m:Int)≤f.size:=by have:=SO.out;have:=U.out;omega
      have a9:m≤f.size:=by omega
      go_wp2_with fail;go_ret2;refine⟨.inl ⟨H,ad,HK.out,_,rfl, ?_⟩,d⟩
      refine(C.extract 0 m).cast ?_
      rw[Int.toNat_natCast,List.drop_zero,qT,←U.out,HS.out]
   ·have HN:=hid K;clear K
    go_wp2_with ((with_reducible refine cd 9 (.string ⟨#[]⟩) lS rfl (some 8) ?hgd ?ho ?hd ?_);(case hgd|ho|hd=>rfl);(intro g N l3 v I z3);(have cs:=v.cell (i:=0) rfl);(have fs:=v.free 0));go_ret2;have y2:=o.size;exact⟨.inr ⟨.inr (.inr HN.out),rfl⟩,(((y.mono B).trans (o.mono (by omega))).trans (I.mono (by omega))).setCell (by show w.heap.size≤g;omega) _⟩
def Mc:List UInt8:=[84,104,101,32,113,117,105,99,107,32,98,114,111,119,110,32,102,111,120,32,106,117,109,112,115,32,111,118,101,114,32,116,104,101,32,108,97,122,121,32,100,111,103]
theorem Ks:(prog.info? 3).map (fun i=>(i.zero,i.size,i.bytes))=some (some (.int .i64 0),1,8):=by kernel_rfl
theorem bC.blk {w:World} {g:Nat} {xs:List Int} {t:TypeId} (h:ac w g (xs.map (Value.int .i64)) t) {n:Nat} (hn:n=xs.length) (c:Nat):bC w (.slice (some ⟨g,0,none⟩) n c) xs:=by
 subst hn;refine .inr ⟨g,0,c,rfl,h.lt,fun j x a=> ?_⟩;rw[Nat.zero_add];exact h.cell (by simp[a])
open Go.ChangeShapes Go.WideShapes
def Fits (x:Int):Prop:=-9223372036854775808≤x∧x≤9223372036854775807
theorem oY {x:Int} (h:(Lit.int .i64 x).wf=true):Fits x:=by
 simp only[Lit.wf,Bool.and_eq_true,decide_eq_true_eq]at h;exact⟨h.1,h.2⟩
structure IntsIn (w:World) (v:Value) (xs:List Int):Prop where
 row:bC w v xs
 fits:∀(j:Nat) (x:Int),xs[j]?=some x→Fits x
theorem lt_of_cell {w:World} {b i:Nat} {v:Value} (h:w.cell? ⟨b,i,none⟩=some v):b<w.heap.size:=by
 by_cases hb:b<w.heap.size
 ·exact hb
 ·simp[World.cell?,Array.getElem?_eq_none (Nat.not_lt.1 hb)]at h
section
variable {H:Type} {enc:TypeId×Value→H} {P:Program} {w:World} {base:Nat} {spare:Nat→Bool} {held:Bool}
structure qJ (w:World) (v:Value) (xs:List ByteArray):Prop where
 row:(xs=[]∧∃(p:Option Addr) (c:Nat),v= .slice p 0 c)∨
  ∃g o c,v= .slice (some ⟨g,o,none⟩) xs.length c∧xs.length≤c∧g<w.heap.size∧∀(j:Nat) (x:ByteArray),xs[j]?=some x→w.cell? ⟨g,o+j,none⟩=some (.string x)
theorem Am {t:TypeId} {v:Value} {d:DataW H} {a:List MemPlace} (h:DataW.Trod enc P w base spare held t v d a):∀x∈a,x.block<w.heap.size:=by
 obtain⟨m,b⟩:=h;exact DataW.trod_lt m _ _ _ b
end
theorem IntsIn.below {w a:World} {v:Value} {xs:List Int} (h:IntsIn w v xs) {B:Nat} (hb:Below B w a) (b:w.heap.size≤B):IntsIn a v xs:=⟨h.row.below hb b,h.fits⟩
theorem qJ.below {w a:World} {v:Value} {xs:List ByteArray} (h:qJ w v xs) {B:Nat} (hb:Below B w a) (i:w.heap.size≤B):qJ a v xs:=by
 refine⟨h.row.imp id ?_⟩;rintro⟨g,o,c,b,hc,f,d⟩;exact⟨g,o,c,b,hc,by have:=hb.size;omega,fun j x e=>by rw[hb.cell (by show g<B;omega)];exact d j x e⟩
structure I64 (n:Int):Prop where
 lt:n<9223372036854775808
def bq (l:List UInt8):Nat:=l.foldl (fun n b=>256*n+b.toNat) 0
theorem oZ (l:List UInt8) (b:UInt8):bq (l++[b])=256*bq l+b.toNat:=by simp[bq]
theorem lT (l:List UInt8) (k:Nat) (h:k<l.length):bq (l.take (k+1))=256*bq (l.take k)+l[k].toNat:=by
 rw[List.take_succ_eq_append_getElem h,oZ]
theorem EV (l:List UInt8) (k:Nat):bq (l.take k)≤bq l:=by
 by_cases h:k<l.length
 ·have:∀m,bq (l.take k)≤bq (l.take (k+m)):=by
   intro m
   induction m with
   |zero=>exact Nat.le_refl _
   |succ m ih=>
    by_cases a:k+m<l.length
    ·rw[←Nat.add_assoc,lT _ _ a];omega
    ·rw[←Nat.add_assoc,List.take_of_length_le (i:=k+m+1) (by omega)];rw[List.take_of_length_le (i:=k+m) (by omega)]at ih;exact ih
  have:=this (l.length-k)
  rwa[List.take_of_length_le (i:=k+(l.length-k)) (by omega)]at this
 ·rw[List.take_of_length_le (by omega)];exact Nat.le_refl _
theorem iR (l:List UInt8):bq l<256^l.length:=by
 have:∀k,k≤l.length→bq (l.take k)<256^k:=by
  intro k c
  induction k with
  |zero=>simp[bq]
  |succ k ih=>
   have a:=ih (by omega);have b:=(l[k]'(by omega)).toNat_lt;rw[lT _ _ (by omega),Nat.pow_succ];omega
 have:=this l.length (Nat.le_refl _)
 rwa[List.take_length]at this
def Ld (l:List UInt8) (e:Ending):Prop:=
 ((1≤l.length∧l.length≤8∧bq l<9223372036854775808)∧e= .returned (.tuple #[.int .i64 ((bq l:Nat):Int), .int .i64 0]))∨
 (¬(1≤l.length∧l.length≤8∧bq l<9223372036854775808)∧e= .returned (.tuple #[.int .i64 0, .int .i64 3]))
theorem EW (a b:Nat) (c:a<9223372036854775808) (hb:b<9223372036854775808):bits .or .i64 (a:Int) (b:Int)=((a|||b:Nat):Int):=by
 have d:a|||b<2^63:=Nat.or_lt_two_pow (by omega) (by omega)
 show IntKind.i64.wrap ((BitVec.ofInt 64 (a:Int)|||BitVec.ofInt 64 (b:Int)).toNat:Int)= _
 rw[BitVec.toNat_or,ofInt_u64 a (by omega),ofInt_u64 b (by omega),IntKind.wrap_i64];omega
structure L9 (n:Nat):Prop where
 lt:n<4294967296
end Go.Proofs.YtadooplpfhdhcaaGreat
