/- A key's words (chapter 5): expand. A block's state (chapter 5): each, with the stand-ins; a cipher in memory. A cipher (chapter 5): New, Encrypt. A cipher (chapter 5): Encrypt. A Builder of the call's own beside other blocks: what a write leaves as it was. -/
import Derived.Test.YtadooplpfhdhcaaGreatQ15
import Derived.Test.YtadooplpfhdhcaaGreatQ2
import Derived.Test.YtadooplpfhdhcaaGreatQ5
import Derived.Shelf.Strings.BuilderK
set_option linter.unusedSimpArgs false
set_option linter.unusedVariables false
set_option maxRecDepth 100000
set_option maxHeartbeats 4000000
namespace Go.Proofs.YtadooplpfhdhcaaGreat
open Go Go.RowKit
open Go.Lib (hid)
open Go.Proofs.Tryz
theorem CL (w:World):Sem.run prog (zeroValue 329) w= .ok (.agg (bytesV (List.replicate 176 0)).toArray) w:=by kernel_rfl
theorem Jg (w:World):Sem.run prog (zeroValue 327) w= .ok (.agg (bytesV (List.replicate 4 0)).toArray) w:=by kernel_rfl
def gg (key:List UInt8) (i:Nat):List UInt8:=(bc key i).1++List.replicate (176-4*i) 0
theorem nv (key:List UInt8) (i:Nat) (h:i≤44):(gg key i).length=176:=by unfold gg;rw[List.length_append,dN,List.length_replicate];omega
theorem Fb (key:List UInt8):gg key 0=List.replicate 176 0:=rfl
theorem Io (key:List UInt8):gg key 44=kt key:=by unfold gg kt;simp
def jl (key:List UInt8) (i:Nat) (f:Nat→UInt8) (r:Nat):List UInt8:=(bc key i).1++((List.range r).map f++List.replicate (176-4*i-r) 0)
theorem pP (key:List UInt8) (i:Nat) (f:Nat→UInt8):jl key i f 0=gg key i:=rfl
theorem ry (key:List UInt8) (i:Nat) (f:Nat→UInt8) (r:Nat) (h:4*i+r≤176):(jl key i f r).length=176:=by unfold jl;simp[dN];omega
theorem yV (key:List UInt8) (i:Nat) (f:Nat→UInt8) (r:Nat) (h:4*i+r<176):(jl key i f r).set (4*i+r) (f r)=jl key i f (r+1):=by
 unfold jl;have e:List.replicate (176-4*i-r) (0:UInt8)=0::List.replicate (176-4*i-(r+1)) 0:=by rw[show 176-4*i-r=(176-4*i-(r+1))+1 by omega,List.replicate_succ]
 rw[List.set_append_right _ _ (by rw[dN];omega),dN,show 4*i+r-4*i=r by omega,List.set_append_right _ _ (by simp),List.length_map,List.length_range,Nat.sub_self,e,List.set_cons_zero,List.range_succ,List.map_append,List.append_assoc]
 rfl
theorem sg (key:List UInt8) (i:Nat) (f:Nat→UInt8) (r j:Nat) (h:j<4*i):(jl key i f r).getD j 0=(bc key i).1.getD j 0:=by
 unfold jl;rw[List.getD,List.getD,List.getElem?_append_left (by rw[dN];exact h)]
theorem pQ (key:List UInt8) (i:Nat) (f:Nat→UInt8):jl key i f 4=(bc key i).1++((List.range 4).map f)++List.replicate (176-4*(i+1)) 0:=by
 unfold jl;rw[List.append_assoc,show 176-4*i-4=176-4*(i+1) by omega]
theorem yW (key:List UInt8) (i:Nat) (h:i<4):jl key i (fun r=>key.getD (4*i+r) 0) 4=gg key (i+1):=by
 rw[pQ];unfold gg;rw[show(bc key (i+1)).1=(bc key i).1++(List.range 4).map (fun r=>key.getD (4*i+r) 0) by simp only[bc,h,if_true]]
theorem Fe (key:List UInt8) (i:Nat) (h:¬i<4):jl key i (fun r=>(bc key i).1.getD (4*(i-4)+r) 0^^^(mR (bc key i).1 i (bc key i).2).getD r 0) 4=gg key (i+1):=by
 rw[pQ];unfold gg;rw[show(bc key (i+1)).1=(bc key i).1++(List.range 4).map (fun r=>(bc key i).1.getD (4*(i-4)+r) 0^^^(mR (bc key i).1 i (bc key i).2).getD r 0) by simp only[bc,h,if_false]]
theorem xA (key:List UInt8) (i:Nat) (h:i<4):(bc key (i+1)).2=(bc key i).2:=by simp only[bc,h,if_true]
theorem uU (key:List UInt8) (i:Nat) (h:¬i<4) (a:i % 4=0):(bc key (i+1)).2=oG (bc key i).2 2:=by simp only[bc,h,a,if_true,if_false]
theorem uV (key:List UInt8) (i:Nat) (h:¬i<4) (a:i % 4≠0):(bc key (i+1)).2=(bc key i).2:=by simp only[bc,h,a,if_false]
theorem vV (l:List UInt8) (a:Nat) (h:a+4≤l.length):(l.drop a).take 4=(List.range 4).map fun r=>l.getD (a+r) 0:=by
 apply List.ext_getElem?
 intro j
 by_cases b:j<4
 ·rw[List.getElem?_take_of_lt b,List.getElem?_drop,List.getElem?_map,List.getElem?_range b]
  simp[List.getElem?_eq_getElem (show a+j<l.length by omega)]
 ·rw[List.getElem?_take_eq_none (by omega),List.getElem?_eq_none (by simp;omega)]
structure dA (w wr:World) (b2 b3 b4:Nat) (l:List UInt8):Prop where
 ws:ac wr b3 (bytesV l) 329
 box:ac wr b4 (bytesV jk) 331
 out:ac wr b2 (bytesV (List.replicate 176 0)) 329
 below:Below w.heap.size w wr
theorem dA.next {w wr d:World} {a b c:Nat} {l:List UInt8} (h:dA w wr a b c l) (hb:Below wr.heap.size wr d):dA w d a b c l:=
 ⟨h.ws.below hb h.ws.lt,h.box.below hb h.box.lt,h.out.below hb h.out.lt,h.below.trans (hb.mono h.below.size)⟩
theorem dA.set {w wr:World} {d c e:Nat} {l:List UInt8} (h:dA w wr d c e l) (hn:d<c∧c<e) (hl:w.heap.size≤c) (i:Nat) (b:UInt8):dA w (wr.setCell ⟨c,i,none⟩ (.int .u8 ((b.toNat:Nat):Int))) d c e (l.set i b):=
 ⟨(h.ws.set i _).ext (cU _ _ _),h.box.set_other (a:=⟨c,i,none⟩) (by show e≠c;omega) _,h.out.set_other (a:=⟨c,i,none⟩) (by show d≠c;omega) _,h.below.setCell (p:=⟨c,i,none⟩) hl _⟩
theorem dA.drew {w wr:World} {a b c:Nat} {l:List UInt8} (h:dA w wr a b c l):dA w wr.drew a b c l:=⟨h.ws.drew,h.box.drew,h.out.drew,h.below.drew⟩
theorem dA.copy {w wr:World} {d a e k:Nat} {key c:List UInt8} (h:dA w wr d a e (gg key k)) (j:k<4) (hn:d<a∧a<e) (hl:w.heap.size≤a) (f:c=(List.range 4).map fun r=>key.getD (4*k+r) 0):dA w (wr.setCells a (4*k) (bytesV c)) d a e (gg key (k+1)):=by
 have o:=(de.refl a wr).setCells (bytesV c) (4*k);have b:c.length=4:=by rw[f];simp
 refine⟨(h.ws.setCells (bytesV c) (4*k) (by rw[ax,ax,nv _ _ (by omega),b];omega)).ext ?_,o.blk h.box (by omega),o.blk h.out (by omega),o.below h.below hl⟩;rw[←yW key k j,pQ,←f,ax,b,io,io];have g:(bytesV (gg key k)).take (4*k)=bytesV (bc key k).1:=by unfold gg;rw[io,List.take_left' (by rw[ax,dN])]
 have i:(bytesV (gg key k)).drop (4*k+4)=bytesV (List.replicate (176-4*(k+1)) 0):=by
  unfold gg;rw[io,←List.drop_drop,List.drop_left' (by rw[ax,dN]),show 176-4*k=4+(176-4*(k+1)) by omega,←List.replicate_append_replicate,io,List.drop_left' (by rw[ax];simp)]
 rw[g,i]
def kL (key:List UInt8) (k r:Nat):UInt8:=(bc key k).1.getD (4*(k-4)+r) 0^^^(mR (bc key k).1 k (bc key k).2).getD r 0
theorem dA.at_val {w wr:World} {c a d i:Nat} {l:List UInt8} {v:Value} {b:UInt8} (h:dA w (wr.setCell ⟨a,i,none⟩ (.int .u8 ((b.toNat:Nat):Int))) c a d l) (e:v= .int .u8 ((b.toNat:Nat):Int)):dA w (wr.setCell ⟨a,i,none⟩ v) c a d l:=e ▸ h
theorem Ff {wr:World} {b k q:Nat} {key:List UInt8} {c d e f:UInt8} {t:TypeId} (h:ac wr b (bytesV (gg key k)) t) (n:k≤44) (p:q+1=k) (g:(bc key k).1.getD (4*(k-1)+0) 0=c) (i:(bc key k).1.getD (4*(k-1)+1) 0=d) (l:(bc key k).1.getD (4*(k-1)+2) 0=e) (m:(bc key k).1.getD (4*(k-1)+3) 0=f):wr.rangeAt b (q*4) (bytesV [c,d,e,f]):=by
 have hc:∀j,j<4→wr.cell? ⟨b,q*4+j,none⟩=some (.int .u8 ((((bc key k).1.getD (4*(k-1)+j) 0).toNat:Nat):Int)):=by
  intro j o
  have:=aw h (q*4+j) (by rw[nv _ _ n];omega)
  rw[←pP key k (fun _=>0),sg _ _ _ _ _ (by omega),show q*4+j=4*(k-1)+j by omega]at this;rw[show q*4+j=4*(k-1)+j by omega];exact this
 intro j v a
 match j,a with
 |0,a=>simp[bytesV]at a;subst a;rw[hc 0 (by decide),g]
 |1,a=>simp[bytesV]at a;subst a;rw[hc 1 (by decide),i]
 |2,a=>simp[bytesV]at a;subst a;rw[hc 2 (by decide),l]
 |3,a=>simp[bytesV]at a;subst a;rw[hc 3 (by decide),m]
 |j+4,a=>simp[bytesV]at a
theorem dA.only {w wr e:World} {b c d a:Nat} {l:List UInt8} (h:dA w wr b c d l) (o:de a wr e) (hn:b≠a∧c≠a∧d≠a) (hl:w.heap.size≤a):dA w e b c d l:=
 ⟨o.blk h.ws hn.2.1,o.blk h.box hn.2.2,o.blk h.out hn.1,o.below h.below hl⟩
theorem A0 (key:ByteArray) (w:World) (hk:key.size=16):
  Calls prog 275 #[.string key] w fun e w'=>e= .returned (.agg (bytesV (kt key.data.toList)).toArray)∧Below w.heap.size w w':=by
 have dg:(key.size:Int)=16:=by omega
 have HK:=hid hk;have aq:=hid (show key.data.toList.length=16 from hk);clear hk;go_enter func275,ntmps275
 go_wp2_with (first
  |((with_reducible refine ab 329 _ CL (some 2) ?hgd ?ho ?hd ?_);(case hgd|ho|hd=>rfl);(intro K w1 V B1 e1 X))
  |((with_reducible refine ab 329 _ CL (some 3) ?hgd ?ho ?hd ?_);(case hgd|ho|hd=>rfl);(intro m w2 W B2 e2 z2))
  |fail)
 have bs:=hid V;have A:=hid (Nat.le_trans V (Nat.le_of_lt (Nat.lt_of_lt_of_le X W)));have HN:=hid (show K<m from Nat.lt_of_lt_of_le X W);have aA:=hid (B1.below e2 (Nat.lt_of_lt_of_le X W));have a2:=hid B2;have I:=hid ((e1.mono V).trans (e2.mono A.out));clear B1 B2 e1 e2 X z2 V W
 refine(s8 _).mono ?_
 rintro e w3 ⟨rfl,F⟩;have a0:=hid (aA.below F aA.lt);have R:=hid (a2.below F a2.lt);have J:=hid (I.trans (F.mono I.size));have a9:(bytesV jk).length=(bytesV (List.replicate 256 0)).length:=by rw[ax,ax,dk,List.length_replicate]
 clear F
 go_wp2_with (first
  |((with_reducible refine ab 331 _ uT (some 4) ?hgd ?ho ?hd ?_);(case hgd|ho|hd=>rfl);(intro y w4 l4 B4 e4 z4))
  |((with_reducible refine aa 331 (.tmp 4) (.tmp 9) y (bytesV (List.replicate 256 0)) (bytesV jk) 331 B4 a9 (qO dk) (dR _) ?hgd ?ho ?hx ?hy ?_);(case hgd|ho|hx|hy=>rfl);(intro w5 B5 o5))
  |fail)
 have G:Below w3.heap.size w3 w5:=o5.below (e4.mono l4) l4;have o:=hid (show K<m∧m<y from⟨HN.out,Nat.lt_of_lt_of_le R.lt l4⟩);have v:=hid (show dA w w5 K m y (gg key.data.toList 0)from⟨by rw[Fb];exact R.below G R.lt,B5,a0.below G a0.lt,J.trans (G.mono J.size)⟩);clear B4 B5 e4 o5 z4 l4 G a9;go_loopw [5,10] (fun p i wr=>∃k:Nat,k≤44∧i= .int .i64 k∧p= .int .u8 (((bc key.data.toList k).2.toNat:Nat):Int)∧dA w wr K m y (gg key.data.toList k)) (fun _ i _=>44-(intOf i).toNat)
 case atStart=>exact⟨0,by omega,rfl,rfl,v.out⟩
 case round=>
  clear v;obtain⟨k,hk,rfl,rfl,hI⟩:=hrel;have v:=hid hI;clear hI
  by_cases ds:k<44
  ·by_cases h4:k<4
   ·have bb:=xA key.data.toList k h4
    have bt:=hid bb;have cx:=hid (yW key.data.toList k h4);clear bb;obtain⟨L,c⟩:∃L,Hid (L=k+1):=⟨_,(rfl:k+1=k+1)⟩;have i0:IntKind.i64.wrap 0=0:=by decide+kernel
    have i1:IntKind.i64.wrap 1=1:=by decide+kernel
    have i2:IntKind.i64.wrap 2=2:=by decide+kernel
    have i3:IntKind.i64.wrap 3=3:=by decide+kernel
    have i4:IntKind.i64.wrap 4=4:=by decide+kernel
    have i5:IntKind.i64.wrap 5=5:=by decide+kernel
    have i6:IntKind.i64.wrap 6=6:=by decide+kernel
    have i7:IntKind.i64.wrap 7=7:=by decide+kernel
    have i8:IntKind.i64.wrap 8=8:=by decide+kernel
    have i9:IntKind.i64.wrap 9=9:=by decide+kernel
    have d0:IntKind.i64.wrap 10=10:=by decide+kernel
    have d1:IntKind.i64.wrap 11=11:=by decide+kernel
    have d2:IntKind.i64.wrap 12=12:=by decide+kernel
    have h:k=0∨k=1∨k=2∨k=3:=by omega
    rcases h with rfl|rfl|rfl|rfl
    all_goals
     go_wp2_with fail;refine aK 7 (by kernel_rfl) (by kernel_rfl) ?_;simp only[List.take_succ_cons,List.take_zero,List.drop_succ_cons,List.drop_zero]
     iterate 7 still_step
     refine wpStill_nil ?_;go_wp2_with fail;rw[pi (P:=prog) _ _ _ 5 m _ 4 4 _ _ _ underlying147 CJ v.ws.drew (by first|(rw[HK.out];decide)|(rw[ByteArray.size_extract,HK.out];decide)) (by rw[ax,nv _ _ (by decide)];decide)];go_wp2_with fail;go_roundw
     case rel=>exact⟨L,by have:=c.out;omega,by rw[c.out];rfl,by rw[c.out,bt.out],by
      rw[c.out];refine dA.copy (dA.drew v.out) (by decide) o.out A.out ?_
      first|exact vV key.data.toList 0 (by rw[aq.out];decide)|(rw[HK.out,List.take_take];exact vV key.data.toList _ (by rw[aq.out];decide))⟩
     case measure=>simp[intOf]
   ·obtain⟨p,q,b⟩:∃p q:Nat,Hid (k=p+4∧q=p+3):=⟨k-4,k-1,by show _∧_;omega⟩
    obtain⟨L,c⟩:∃L,Hid (L=k+1):=⟨_,(rfl:k+1=k+1)⟩;obtain⟨d,X0⟩:∃x,Hid ((bc key.data.toList k).1.getD (4*(k-1)+0) 0=x):=⟨_,rfl⟩;obtain⟨l,X1⟩:∃x,Hid ((bc key.data.toList k).1.getD (4*(k-1)+1) 0=x):=⟨_,rfl⟩;obtain⟨f,X2⟩:∃x,Hid ((bc key.data.toList k).1.getD (4*(k-1)+2) 0=x):=⟨_,rfl⟩;obtain⟨g,X3⟩:∃x,Hid ((bc key.data.toList k).1.getD (4*(k-1)+3) 0=x):=⟨_,rfl⟩;have HR:=hid (Ff v.ws (by omega) (show q+1=k by have:=b.out;omega) X0.out X1.out X2.out X3.out);have dt:((k:Nat):Int)-1=(q:Int):=by have:=b.out;omega
    have dv:(q:Int)<44:=by have:=b.out;omega
    have dc:¬((k:Nat):Int)<4:=by omega
    have bd:(bytesV [d,l,f,g]).length=(bytesV (List.replicate 4 0)).length:=rfl;have an:=hid (Fe key.data.toList k h4)
    by_cases hm:k % 4=0
    ·have ci:((k:Nat):Int) % 4=0:=by omega
     have M:=hid (uU key.data.toList k h4 hm)
     go_wp2_with (first
      |((with_reducible refine ao 327 (.tmp 25) m (q*4) (bytesV [d,l,f,g]) _ (some 26) HR.out underlying327 rfl (pO rfl) ?hg ?ho ?hds ?hx ?_);(case ho|hg|hds|hx=>rfl))
      |((with_reducible refine ab 327 _ Jg (some 7) ?hgd ?ho ?hd ?_);(case hgd|ho|hd=>rfl);(intro t wa H Y ea za))
      |((with_reducible refine aa 327 (.tmp 7) (.tmp 26) t (bytesV (List.replicate 4 0)) (bytesV [d,l,f,g]) 327 Y bd (pO rfl) (dR _) ?hgd ?ho ?hx ?hy ?_);(case hgd|ho|hx|hy=>rfl);(intro wb Z ob))
      |fail)
     have D:Below wr.heap.size wr wb:=ob.below (ea.mono H) H;have B:=hid (show y<t from Nat.lt_of_lt_of_le v.box.lt H);have T:=hid (v.next D);have n:=hid Z;clear Y ea za H Z ob D;have y0:wb.cell? ⟨t,0,none⟩=some (.int .u8 ((d.toNat:Nat):Int)):=n.cell rfl;have y1:wb.cell? ⟨t,1,none⟩=some (.int .u8 ((l.toNat:Nat):Int)):=n.cell rfl;have y2:wb.cell? ⟨t,2,none⟩=some (.int .u8 ((f.toNat:Nat):Int)):=n.cell rfl;have y3:wb.cell? ⟨t,3,none⟩=some (.int .u8 ((g.toNat:Nat):Int)):=n.cell rfl;have z0:wb.cell? ⟨y,d.toNat,none⟩=some (.int .u8 (((cP d).toNat:Nat):Int)):=aw T.box d.toNat (by rw[dk];simpa using d.toNat_lt);have X:wb.cell? ⟨y,l.toNat,none⟩=some (.int .u8 (((cP l).toNat:Nat):Int)):=aw T.box l.toNat (by rw[dk];simpa using l.toNat_lt);have z2:wb.cell? ⟨y,f.toNat,none⟩=some (.int .u8 (((cP f).toNat:Nat):Int)):=aw T.box f.toNat (by rw[dk];simpa using f.toNat_lt);have z3:wb.cell? ⟨y,g.toNat,none⟩=some (.int .u8 (((cP g).toNat:Nat):Int)):=aw T.box g.toNat (by rw[dk];simpa using g.toNat_lt)
     have l0:((d.toNat:Nat):Int)<256:=by have:d.toNat<256:=by simpa using d.toNat_lt
                                         omega
     have V:((l.toNat:Nat):Int)<256:=by have:l.toNat<256:=by simpa using l.toNat_lt
                                        omega
     have W:((f.toNat:Nat):Int)<256:=by have:f.toNat<256:=by simpa using f.toNat_lt
                                        omega
     have l3:((g.toNat:Nat):Int)<256:=by have:g.toNat<256:=by simpa using g.toNat_lt
                                         omega
     refine aK 18 (by kernel_rfl) (by kernel_rfl) ?_;simp only[List.take_succ_cons,List.take_zero,List.drop_succ_cons,List.drop_zero]
     iterate 18 still_step
     refine wpStill_nil ?_;obtain⟨u,hu⟩:∃u,Hid (cP l^^^(bc key.data.toList k).2=u):=⟨_,(rfl:cP l^^^(bc key.data.toList k).2= _)⟩;rw[mj hu.out]
     go_wp2_with (first
      |((with_reducible refine au 327 ?parts48 (bytesV [u,cP f,cP g,cP d]) ?hg ?ho ?hf ?_);(case hg|ho=>rfl);(case hf=>kernel_rfl))
      |((with_reducible refine aa 327 (.tmp 7) (.tmp 48) t (bytesV [d,l,f,g]) (bytesV [u,cP f,cP g,cP d]) 327 n.out.drew rfl (pO rfl) (dR _) ?hgd ?ho ?hx ?hy ?_);(case hgd|ho|hx|hy=>rfl);(intro wc Bc oc))
      |fail)
     have Q:=hid (show[u,cP f,cP g,cP d]=mR (bc key.data.toList k).1 k (bc key.data.toList k).2 by unfold mR;rw[if_pos hm,←hu.out,←X0.out,←X1.out,←X2.out,←X3.out];rfl);have O:=hid (show[u,cP f,cP g,cP d].length=4 from rfl);have bw:=hid (show dA w wc K m y (gg key.data.toList k)from T.drew.only oc (by have:=B.out;have:=o.out;omega) (by have:=B.out;have:=o.out;have:=A.out;omega));have ad:=hid Bc;clear y0 y1 y2 y3 z0 X z2 z3 l0 V W l3 Bc oc
     refine(oH (bc key.data.toList k).2 2 _).mono ?_
     rintro e w' ⟨rfl,rfl⟩;rw[←M.out];go_wp2_with fail;have a8:decide (((k:Nat):Int)<44)=true:=decide_eq_true (by omega);go_loopw [51] (fun i wq=>∃r:Nat,r≤4∧i= .int .i64 r∧dA w wq K m y (jl key.data.toList k (kL key.data.toList k) r)∧ac wq t (bytesV [u,cP f,cP g,cP d]) 327) (fun i _=>4-(intOf i).toNat)
     case atStart=>exact⟨0,by omega,rfl,by rw[pP];exact bw.out,ad.out⟩
     case round=>
      obtain⟨r,hr,rfl,hJ,hT⟩:=hrel;have z:=hid hJ;have HT:=hid hT;clear hJ hT
      by_cases E:r<4
      ·have C:=hid (show(jl key.data.toList k (kL key.data.toList k) r).length=176 from ry _ _ _ _ (by omega))
       have ca:=aw z.ws (p*4+r) (by rw[C.out];have:=b.out;omega);rw[sg _ _ _ _ _ (by have:=b.out;omega)]at ca;have cb:=aw HT.out r (by rw[O.out];exact E);have cc:=aw z.ws (k*4+r) (by rw[C.out];omega);have cf:=z.ws.free (k*4+r);have N:=hid (yV key.data.toList k (kL key.data.toList k) r (by omega));have S:=hid (fun(j:Nat) (hj:j=p*4+r)=>(show(bc key.data.toList k).1.getD j 0^^^[u,cP f,cP g,cP d].getD r 0=kL key.data.toList k r by rw[hj,Q.out];unfold kL;rw[show k-4=p by have:=b.out;omega,show 4*p+r=p*4+r by omega]));have i0:IntKind.i64.wrap 0=0:=by decide+kernel
       have i1:IntKind.i64.wrap 1=1:=by decide+kernel
       have i2:IntKind.i64.wrap 2=2:=by decide+kernel
       have i3:IntKind.i64.wrap 3=3:=by decide+kernel
       have i4:IntKind.i64.wrap 4=4:=by decide+kernel
       have n4:IntKind.i64.wrap (((k:Nat):Int)-4)=(p:Int):=by rw[IntWalk.i64_in _ (by have:=b.out;omega)];have:=b.out;omega
       have cl:(p:Int)<44:=by have:=b.out;omega
       have ck:((k:Nat):Int)<44:=by omega
       obtain⟨U,s⟩:∃U,Hid (U=r+1):=⟨_,(rfl:r+1=r+1)⟩;have h:r=0∨r=1∨r=2∨r=3:=by omega
       rcases h with rfl|rfl|rfl|rfl
       all_goals
        (try simp only[Nat.add_zero]at ca cc cf)
        go_wp2_with fail;refine aK 14 (by kernel_rfl) (by kernel_rfl) ?_;simp only[List.take_succ_cons,List.take_zero,List.drop_succ_cons,List.drop_zero]
        iterate 14 still_step
        refine wpStill_nil ?_;go_wp2_with fail;go_roundw
        case rel=>exact⟨U,by have:=s.out;omega,by rw[s.out];rfl,by
         rw[s.out,←N.out,Nat.mul_comm 4 k]
         exact((z.set o.out A.out _ _).at_val (mj (S.out _ rfl))).drew,(HT.set_other (a:=⟨m,_,none⟩) (by have:=B.out;have:=o.out;show t≠m;omega) _).drew⟩
        case measure=>simp[intOf]
      ·obtain rfl:r=4:=by omega
       go_wp2_with fail;go_roundw
       case rel=>exact⟨L,by have:=c.out;omega,by rw[c.out];go_num,by rw[c.out],by rw[c.out,←an.out];exact z.out⟩
       case measure=>simp[intOf];omega
    ·have ci:¬((k:Nat):Int) % 4=0:=by omega
     have M:=hid (uV key.data.toList k h4 hm);have Q:=hid (show[d,l,f,g]=mR (bc key.data.toList k).1 k (bc key.data.toList k).2 by unfold mR;rw[if_neg hm,←X0.out,←X1.out,←X2.out,←X3.out];rfl)
     go_wp2_with (first
      |((with_reducible refine ao 327 (.tmp 25) m (q*4) (bytesV [d,l,f,g]) _ (some 26) HR.out underlying327 rfl (pO rfl) ?hg ?ho ?hds ?hx ?_);(case ho|hg|hds|hx=>rfl))
      |((with_reducible refine ab 327 _ Jg (some 7) ?hgd ?ho ?hd ?_);(case hgd|ho|hd=>rfl);(intro t wa H Y ea za))
      |((with_reducible refine aa 327 (.tmp 7) (.tmp 26) t (bytesV (List.replicate 4 0)) (bytesV [d,l,f,g]) 327 Y bd (pO rfl) (dR _) ?hgd ?ho ?hx ?hy ?_);(case hgd|ho|hx|hy=>rfl);(intro wb Z ob))
      |fail)
     have D:Below wr.heap.size wr wb:=ob.below (ea.mono H) H;have B:=hid (show y<t from Nat.lt_of_lt_of_le v.box.lt H);have T:=hid (v.next D);have n:=hid Z;have O:=hid (show[d,l,f,g].length=4 from rfl);clear Y ea za H Z ob D;have a8:decide (((k:Nat):Int)<44)=true:=decide_eq_true (by omega);go_loopw [51] (fun i wq=>∃r:Nat,r≤4∧i= .int .i64 r∧dA w wq K m y (jl key.data.toList k (kL key.data.toList k) r)∧ac wq t (bytesV [d,l,f,g]) 327) (fun i _=>4-(intOf i).toNat)
     case atStart=>exact⟨0,by omega,rfl,by rw[pP];exact T.out,n.out⟩
     case round=>
      obtain⟨r,hr,rfl,hJ,hT⟩:=hrel;have z:=hid hJ;have HT:=hid hT;clear hJ hT
      by_cases E:r<4
      ·have C:=hid (show(jl key.data.toList k (kL key.data.toList k) r).length=176 from ry _ _ _ _ (by omega))
       have ca:=aw z.ws (p*4+r) (by rw[C.out];have:=b.out;omega);rw[sg _ _ _ _ _ (by have:=b.out;omega)]at ca;have cb:=aw HT.out r (by rw[O.out];exact E);have cc:=aw z.ws (k*4+r) (by rw[C.out];omega);have cf:=z.ws.free (k*4+r);have N:=hid (yV key.data.toList k (kL key.data.toList k) r (by omega));have S:=hid (fun(j:Nat) (hj:j=p*4+r)=>(show(bc key.data.toList k).1.getD j 0^^^[d,l,f,g].getD r 0=kL key.data.toList k r by rw[hj,Q.out];unfold kL;rw[show k-4=p by have:=b.out;omega,show 4*p+r=p*4+r by omega]));have i0:IntKind.i64.wrap 0=0:=by decide+kernel
       have i1:IntKind.i64.wrap 1=1:=by decide+kernel
       have i2:IntKind.i64.wrap 2=2:=by decide+kernel
       have i3:IntKind.i64.wrap 3=3:=by decide+kernel
       have i4:IntKind.i64.wrap 4=4:=by decide+kernel
       have n4:IntKind.i64.wrap (((k:Nat):Int)-4)=(p:Int):=by rw[IntWalk.i64_in _ (by have:=b.out;omega)];have:=b.out;omega
       have cl:(p:Int)<44:=by have:=b.out;omega
       have ck:((k:Nat):Int)<44:=by omega
       obtain⟨U,s⟩:∃U,Hid (U=r+1):=⟨_,(rfl:r+1=r+1)⟩;have h:r=0∨r=1∨r=2∨r=3:=by omega
       rcases h with rfl|rfl|rfl|rfl
       all_goals
        (try simp only[Nat.add_zero]at ca cc cf)
        go_wp2_with fail;refine aK 14 (by kernel_rfl) (by kernel_rfl) ?_;simp only[List.take_succ_cons,List.take_zero,List.drop_succ_cons,List.drop_zero]
        iterate 14 still_step
        refine wpStill_nil ?_;go_wp2_with fail;go_roundw
        case rel=>exact⟨U,by have:=s.out;omega,by rw[s.out];rfl,by
         rw[s.out,←N.out,Nat.mul_comm 4 k]
         exact((z.set o.out A.out _ _).at_val (mj (S.out _ rfl))).drew,(HT.set_other (a:=⟨m,_,none⟩) (by have:=B.out;have:=o.out;show t≠m;omega) _).drew⟩
        case measure=>simp[intOf]
      ·obtain rfl:r=4:=by omega
       go_wp2_with fail;go_roundw
       case rel=>exact⟨L,by have:=c.out;omega,by rw[c.out];go_num,by rw[c.out,M.out],by rw[c.out,←an.out];exact z.out⟩
       case measure=>simp[intOf];omega
  ·obtain rfl:k=44:=by omega
   have cg:(bytesV (kt key.data.toList)).length=(bytesV (List.replicate 176 0)).length:=by rw[ax,ax,iy,List.length_replicate]
   have bv:=hid (show ac wr m (bytesV (kt key.data.toList)) 329 from by rw[←Io];exact v.ws)
   go_wp2_with (first
    |((with_reducible refine aj 329 (.tmp 3) m (bytesV (kt key.data.toList)) 329 _ bv.out underlying329 rfl (lW (iy _)) ?hgd ?ho ?hx ?_);(case hgd|ho|hx=>rfl))
    |((with_reducible refine aa 329 (.tmp 2) (.tmp 70) K (bytesV (List.replicate 176 0)) (bytesV (kt key.data.toList)) 329 v.out.out cg (lW (iy _)) (dR _) ?hgd ?ho ?hx ?hy ?_);(case hgd|ho|hx|hy=>rfl);(intro w9 B9 o9))
    |fail)
   (try simp only[Exit.inBlock,Exit.then]);refine bodyPost_ret (aY rfl _ _ B9.range rfl underlying329 rfl (lW (iy _))) rfl ⟨rfl,o9.below v.below bs.out⟩
def dl (W:List UInt8):List Value:= .bool true::(bytesV W++bytesV jk)
structure ei (w:World) (cb vb:Nat) (W:List UInt8):Prop where
 blk:ac w cb (dl W) 334
 var:ac w vb [.pointer (some ⟨cb,0,none⟩)] 296
theorem ei.below {w c:World} {a b:Nat} {W:List UInt8} (h:ei w a b W) (hb:Below w.heap.size w c):ei c a b W:=⟨h.blk.below hb h.blk.lt,h.var.below hb h.var.lt⟩
theorem ei.turned {w c:World} {a b:Nat} {W:List UInt8} {S:List Nat} (h:ei w a b W) (t:af S w c) (d:a∉S) (e:b∉S):ei c a b W:=⟨t.blk h.blk d,t.blk h.var e⟩
theorem ei.drew {w:World} {a b:Nat} {W:List UInt8} (h:ei w a b W):ei w.drew a b W:=⟨h.blk.drew,h.var.drew⟩
theorem Dm {W:List UInt8} (c:W.length=176) (b:UInt8):(dl W)[177+b.toNat]?=some (.int .u8 (((cP b).toNat:Nat):Int)):=by
 have hb:=b.toNat_lt;have a:b.toNat<jk.length:=by rw[dk];simpa using hb
 unfold dl;rw[show 177+b.toNat=(176+b.toNat)+1 by omega,List.getElem?_cons_succ,List.getElem?_append_right (by rw[ax,c];omega),ax,c,show 176+b.toNat-176=b.toNat by omega,eB _ _ a];unfold cP;rw[List.getD,List.getElem?_eq_getElem a]
 rfl
theorem Fg (b:UInt8) (c a:Nat) (W:List UInt8) (w:World) (h:ei w c a W) (g:W.length=176):
  Calls prog 280 #[.int .u8 ((b.toNat:Nat):Int), .pointer (some ⟨a,0,none⟩)] w fun e w'=>e= .returned (.int .u8 (((cP b).toNat:Nat):Int))∧w=w':=by
 have j:=h.var.cell (i:=0) rfl;have k:=h.blk.cell (Dm g b);have hb:=b.toNat_lt;have d:b.toNat<256:=by simpa using hb
 have f:((b.toNat:Nat):Int)<256:=by omega
 go_enter func280,ntmps280;go_wp2_with fail;go_ret;exact⟨rfl,rfl⟩
theorem Ip (x:List UInt8) (hl:x.length=16):bS (fun i=>cP (x.getD i 0)) x 16=mQ x:=by
 rw[jV _ _ _ hl];rfl
theorem yX (a q m:Nat) (x W:List UInt8) (w:World) (h:ac w a (bytesV x) 336) (hl:x.length=16) (hc:ei w q m W) (z:W.length=176) (g:q≠a) (j:m≠a):
  Calls prog 279 #[.pointer (some ⟨a,0,none⟩), .func (.func 280) #[] #[.pointer (some ⟨m,0,none⟩)]] w fun e w'=>e= .returned (.tuple #[])∧ac w' a (bytesV (mQ x)) 336∧af [a] w w':=by
 have D:=hid h;have c:=hid hl;have A:=hid hc;have C:=hid z;have s:=hid (And.intro g j);clear h hl hc z g j;go_enter func279,ntmps279;go_wp2_with fail;go_loopw [7] (fun i wr=>∃k:Nat,k≤16∧i= .int .i64 k∧ac wr a (bytesV (bS (fun i=>cP (x.getD i 0)) x k)) 336∧af [a] w wr) (fun i _=>16-(intOf i).toNat)
 case atStart=>exact⟨0,by omega,rfl,by rw[jo];exact D.out,af.refl _ _⟩
 case round=>
  obtain⟨k,v,rfl,u,r⟩:=hrel;have l:=hid u;have t:=hid r;have o:=hid (A.turned r (by simp;exact s.out.1) (by simp;exact s.out.2));clear u r
  by_cases f:k<16
  ·have y:((k:Nat):Int)<16:=by omega
   have B:=hid (show(bS (fun i=>cP (x.getD i 0)) x k).length=16 from by rw[im _ _ _ (by rw[c.out];exact v)];exact c.out);have hc:=aw l.out k (by rw[B.out];exact f);have d:(bS (fun i=>cP (x.getD i 0)) x k).getD k 0=x.getD k 0:=by rw[List.getD,List.getD,vU _ _ _ _ (Nat.le_refl _) (by rw[c.out];exact v)]
   rw[d]at hc;clear d;have E:=l.free k;have p:=hid (jU (fun i=>cP (x.getD i 0)) x k (by rw[c.out];exact f));obtain⟨b,hb⟩:∃b,x.getD k 0=b:=⟨_,rfl⟩;rw[hb]at hc;have n:=hid hb;clear hb;go_wp2_with fail;refine aB (by kernel_rfl) (by kernel_rfl) ?_
   iterate 6 still_step
   refine wpStill_nil ?_;go_wp2_with fail;refine aK 7 (by kernel_rfl) (by kernel_rfl) ?_;simp only[List.take_succ_cons,List.take_zero,List.drop_succ_cons,List.drop_zero]
   iterate 4 still_step
   still_call (eo (Fg b q m W _ o.drew.drew C.out))
   repeat still_step
   refine wpStill_nil ?_;go_wp2_with fail;go_roundw
   case rel=>exact⟨k+1,by omega,by go_num,by rw[←p.out,←cU,n.out];exact(l.set _ _).drew.drew,(t.setCell (b:=a) (.inl (by simp)) _ _).drew.drew⟩
   case measure=>simp[intOf];omega
  ·obtain rfl:k=16:=by omega
   go_wp2_with fail;go_end0;exact⟨rfl,by rw[←Ip x c.out];exact l.out,t.out⟩
theorem Fh (cs:List Value):∀(l:List Value) (off j:Nat),off+j+cs.length≤l.length→((cs.zipIdx j).foldl (fun(a:Array Value) (x:Value×Nat)=>a.setIfInBounds (off+x.2) x.1) l.toArray)=(l.take (off+j)++cs++l.drop (off+j+cs.length)).toArray:=by
 induction cs with
 |nil=>intro l off j h;simp
 |cons c r ih=>
  intro l off j h;simp only[List.length_cons]at h;rw[List.zipIdx_cons,List.foldl_cons,List.setIfInBounds_toArray]
  have:=ih (l.set (off+j) c) off (j+1) (by rw[List.length_set];omega)
  rw[this]
  congr 1
  have b:(l.set (off+j) c).take (off+(j+1))=l.take (off+j)++[c]:=by
   rw[show off+(j+1)=(off+j)+1 by omega,List.take_set,List.take_succ_eq_append_getElem (by omega),List.set_append_right _ _ (by simp;omega)];simp[Nat.min_eq_left (by omega:off+j≤l.length)]
  rw[b,List.drop_set_of_lt (by omega)];simp[Nat.add_assoc,Nat.add_comm 1]
theorem si {a:Nat→Option (Nat×Nat)} {l:List Value} {i off size:Nat} {v:Value} {cs:List Value} {rest:List (Nat×Value)} (hp:a i=some (off,size)) (d:v.cells=cs.toArray) (c:cs.length=size) (hl:off+size≤l.length):
  Instr.fill a l.toArray ((i,v)::rest)=Instr.fill a (l.take off++cs++l.drop (off+size)).toArray rest:=by
 have b:=Fh cs l off 0 (by omega);rw[Nat.add_zero,c]at b;simp only[Instr.fill,hp,d,List.size_toArray,c];rw[if_neg (by simp;omega),←b];simp
def qQ:List Value:= .bool false::List.replicate 432 (.int .u8 0)
theorem te (parts:List (Nat×Value)):prog.built 334 parts=Instr.fill (fun i=>(#[(0,1),(1,176),(177,256)]:Array (Nat×Nat))[i]?) qQ.toArray parts:=by kernel_rfl
theorem A1 (W:List UInt8) (b:W.length=176):prog.built 334 [(0, .bool true),(1, .agg (bytesV W).toArray),(2, .agg (bytesV jk).toArray)]=some (dl W).toArray:=by
 have a:qQ.length=433:=by simp[qQ]
 rw[te,si (cs:=[.bool true]) (off:=0) (size:=1) rfl rfl rfl (by rw[a];decide),
  si (cs:=bytesV W) (off:=1) (size:=176) rfl rfl (by rw[ax,b]) (by simp[a]),
  si (cs:=bytesV jk) (off:=177) (size:=256) rfl rfl (by rw[ax,dk]) (by simp[a,ax,b])]
 simp only[Instr.fill]
 congr 2
 unfold dl;have e:([.bool true]++bytesV W:List Value).length=177:=by simp[ax,b]
 simp only[List.take_zero,List.nil_append];have d:(bytesV W).length=176:=by rw[ax,b]
 have c:List.take 1 ([Value.bool true]++List.drop (0+1) qQ)=[Value.bool true]:=rfl;rw[c,List.take_left' e,List.drop_of_length_le (by simp[d,a])];simp
theorem ml {w:World} {a:Nat} {W:List UInt8} {t:TypeId} (h:ac w a (dl W) t):w.rangeAt a 1 (bytesV W):=by
 intro j v b;refine h.cell ?_;unfold dl;rw[show 1+j=j+1 by omega,List.getElem?_cons_succ,List.getElem?_append_left (by have:=(List.getElem?_eq_some_iff.1 b).1;exact this)];exact b
theorem A2 (key:ByteArray) (w:World) (i:key.size=16):
  Calls prog 231 #[.string key] w fun e w'=>(∃h,e= .returned (.tuple #[.pointer (some ⟨h,0,none⟩), .int .i64 0])∧ac w' h (dl (kt key.data.toList)) 334∧w.heap.size≤h)∧Below w.heap.size w w':=by
 have o:(key.size:Int)=16:=by omega
 have l:=hid i;obtain⟨W,f⟩:∃W,Hid (kt key.data.toList=W):=⟨_,rfl⟩;have g:=hid (show W.length=176 by rw[←f.out];exact iy _);clear i;go_enter func231,ntmps231;go_wp2_with fail
 refine(A0 key _ l.out).mono ?_
 rintro e p ⟨rfl,c⟩;rw[f.out];have b:=hid c;clear c;go_wp2_with fail
 refine(s8 _).mono ?_
 rintro e q ⟨rfl,d⟩;have a:=hid (b.trans (d.mono b.size));clear d
 go_wp2_with (first
  |((with_reducible refine au 334 ?parts10 (dl W) ?hg ?ho ?hf ?_);(case hg|ho=>rfl);(case hf=>(refine Eq.trans ?_ (A1 W g.out);kernel_rfl)))
  |((with_reducible refine ae 334 (.tmp 10) (dl W) (some 11) ?hgd ?ho ?hd ?hx ?_);(case hgd|ho|hd|hx=>rfl);(intro m r j k n s))
  |fail)
 go_ret2;exact⟨⟨m,rfl,by rw[f.out];exact k,Nat.le_trans a.size j⟩,a.trans ((n.mono j).mono a.size)⟩
theorem yY (k:Nat) (W:List UInt8) (s:ByteArray) (w:World) (h:ac w k (dl W) 334) (hw:W.length=176) (hs:s.size=16):
  Calls prog 232 #[.pointer (some ⟨k,0,none⟩), .string s] w fun e w'=>(∃r,e= .returned (.tuple #[.string r, .int .i64 0])∧ah r (ga W s.data.toList 10))∧Below w.heap.size w w':=by
 have ce:∀(fn:Fn) (first Y:Array Value) (w:World),(Instr.makeFunc fn first Y).run prog w= .ok (.func fn first Y) w:=fun _ _ _ _=>rfl
 have cg:(s.size:Int)=16:=by omega
 have q:=hid h;have b:=hid hw;have HS:=hid hs;have G:=hid (show s.data.toList.length=16 from hs);have k0:w.cell? ⟨k,0,none⟩=some (.bool true):=h.cell (i:=0) rfl;clear h hw hs;go_enter func232,ntmps232
 go_wp2_with (first
  |((with_reducible refine aO 296 (.tmp 0) (.pointer (some ⟨k,0,none⟩)) rfl (some 2) ?hgd ?ho ?hd ?hx ?_);(case hgd|ho|hd|hx=>rfl);(intro X w1 N B1 e1 z1;have c1:=B1.cell (i:=0) rfl;have k1:w1.cell? ⟨k,0,none⟩=some (.bool true):=by rw[(e1.mono N).cell q.out.lt];exact k0))
  |fail)
 have b7:=hid N;have S:=hid B1;have Q:=hid (q.below (e1.mono N) q.lt);have v:=hid (e1.mono N);have b8:=hid (show k<X from Nat.lt_of_lt_of_le q.lt N);clear B1 e1 z1 N c1 k1 k0
 refine(Dl s _ HS.out).mono ?_
 rintro e w2 ⟨rfl,t⟩;have H:=hid (S.below t S.lt);have F:=hid (Q.below t Q.lt);have l:=hid (v.trans (t.mono v.size));have a2:(bytesV s.data.toList).length=(bytesV (List.replicate 16 0)).length:=by rw[ax,ax,G.out,List.length_replicate]
 clear t
 go_wp2_with (first
  |((with_reducible refine ab 336 _ pN (some 6) ?hgd ?ho ?hd ?_);(case hgd|ho|hd=>rfl);(intro c w3 O B3 e3 z3))
  |((with_reducible refine aa 336 (.tmp 6) (.tmp 23) c (bytesV (List.replicate 16 0)) (bytesV s.data.toList) 336 B3 a2 (kV G.out) (dR _) ?hgd ?ho ?hx ?hy ?_);(case hgd|ho|hx|hy=>rfl);(intro w4 B4 o4;have u:Below w2.heap.size w2 w4:=o4.below (e3.mono O) O;have V4:=H.out.below u H.out.lt;have C4:=F.out.below u F.out.lt;have v4:=V4.cell (i:=0) rfl))
  |((with_reducible refine ao 329 (.tmp 26) k 1 (bytesV W) _ (some 27) (ml C4) underlying329 rfl (lW b.out) ?hg ?ho ?hds ?hx ?_);(case ho|hg|hds|hx=>rfl))
  |fail)
 have g:=hid (show w.heap.size≤c from Nat.le_trans l.size O);have a:=hid (show k<c∧X<c from⟨Nat.lt_of_lt_of_le F.lt O,Nat.lt_of_lt_of_le H.lt O⟩);have a8:=hid B4;have a6:=hid (show ei w4 k X W from⟨C4,V4⟩);have y:=hid (l.trans (u.mono l.size));clear B3 B4 e3 o4 O z3 u V4 C4 v4 a2
 refine(nu c 0 s.data.toList W _ a8.out G.out b.out (by decide)).mono ?_
 rintro e w5 ⟨rfl,an,J⟩;have T:=hid (show ac w5 c (bytesV (ga W s.data.toList 0)) 336 from an);have P:=hid (a6.turned J (by have:=a.out;simp;omega) (by have:=a.out;simp;omega));have z:=hid (J.below y.out (fun x hx=>by simp at hx;subst hx;exact g.out) y.size);clear an J;go_wp2_with fail;go_loopw [7] (fun i wr=>∃r:Nat,r≤10∧i= .int .i64 ((r+1:Nat):Int)∧ac wr c (bytesV (ga W s.data.toList r)) 336∧ei wr k X W∧Below w.heap.size w wr) (fun i _=>11-(intOf i).toNat)
 case atStart=>exact⟨0,by omega,rfl,T.out,P.out,z.out⟩
 case round=>
  clear T P z;obtain⟨r,hr,rfl,hX,hA,a1⟩:=hrel;have HX:=hid hX;have HA:=hid hA;have E:=hid a1;clear hX hA a1;obtain⟨n,j⟩:∃n,Hid (n=r+1):=⟨_,(rfl:r+1=r+1)⟩;rw[←j.out];have U:=hid (mh W s.data.toList r)
  by_cases cc:r<10
  ·have cf:(n:Int)≤10:=by have:=j.out;omega
   have R:=hid (show ga W s.data.toList n=se (if n<10 then uS (mP (mQ (ga W s.data.toList r))) [2,3,1,1]else mP (mQ (ga W s.data.toList r))) W n by rw[j.out];rfl);go_wp2_with fail
   refine(yX c k X _ W _ HX.out U.out HA.out b.out (by have:=a.out;omega) (by have:=a.out;omega)).mono ?_
   rintro e wa ⟨rfl,aq,K⟩;have a9:=hid aq;have a7:=hid (HA.turned K (by have:=a.out;simp;omega) (by have:=a.out;simp;omega));have A:=hid (K.below E.out (fun x hx=>by simp at hx;subst hx;exact g.out) E.size);clear aq K;go_wp2_with fail
   refine(yU c _ _ a9.out (yO _)).mono ?_
   rintro e wb ⟨rfl,aA,L⟩;have V:=hid aA;have p:=hid (a7.turned L (by have:=a.out;simp;omega) (by have:=a.out;simp;omega));have f:=hid (L.below A.out (fun x hx=>by simp at hx;subst hx;exact g.out) A.size);clear aA L
   by_cases Z:n<10
   ·have ad:(n:Int)<10:=by omega
    go_wp2_with fail
    refine(AZ c _ [2,3,1,1] _ V.out (pM _) rfl).mono ?_
    rintro e wc ⟨rfl,a0,M⟩;have bb:=hid a0;have C:=hid (p.turned M (by have:=a.out;simp;omega) (by have:=a.out;simp;omega));have B:=hid (M.below f.out (fun x hx=>by simp at hx;subst hx;exact g.out) f.size);have v0:=C.var.cell (i:=0) rfl;clear a0 M
    go_wp2_with (first
     |((with_reducible refine ao 329 (.tmp 42) k 1 (bytesV W) _ (some 43) (ml C.out.blk) underlying329 rfl (lW b.out) ?hg ?ho ?hds ?hx ?_);(case ho|hg|hds|hx=>rfl))
     |fail)
    clear v0
    refine(nu c n _ W _ bb.out (AY _ _) b.out (by omega)).mono ?_
    rintro e wd ⟨rfl,o,d⟩;have I:=hid (show ac wd c (bytesV (ga W s.data.toList n)) 336 from by rw[R.out,if_pos Z];exact o);have D:=hid (C.turned d (by have:=a.out;simp;omega) (by have:=a.out;simp;omega));have m:=hid (d.below B.out (fun x hx=>by simp at hx;subst hx;exact g.out) B.size);clear o d;go_wp2_with fail;go_roundw
    case rel=>exact⟨n,by omega,by go_num,I.out,D.out,m.out⟩
    case measure=>simp[intOf];omega
   ·have ad:¬(n:Int)<10:=by omega
    have be:(10:Int)≤(n:Int):=by omega
    have v0:=p.var.cell (i:=0) rfl
    go_wp2_with (first
     |((with_reducible refine ao 329 (.tmp 42) k 1 (bytesV W) _ (some 43) (ml p.out.blk) underlying329 rfl (lW b.out) ?hg ?ho ?hds ?hx ?_);(case ho|hg|hds|hx=>rfl))
     |fail)
    clear v0
    refine(nu c n _ W _ V.out (pM _) b.out (by have:=j.out;omega)).mono ?_
    rintro e wd ⟨rfl,o,d⟩;have I:=hid (show ac wd c (bytesV (ga W s.data.toList n)) 336 from by rw[R.out,if_neg Z];exact o);have D:=hid (p.turned d (by have:=a.out;simp;omega) (by have:=a.out;simp;omega));have m:=hid (d.below f.out (fun x hx=>by simp at hx;subst hx;exact g.out) f.size);clear o d;go_wp2_with fail;go_roundw
    case rel=>exact⟨n,by have:=j.out;omega,by go_num,I.out,D.out,m.out⟩
    case measure=>simp[intOf];omega
  ·obtain rfl:r=10:=by omega
   obtain rfl:=j.out
   go_wp2_with (first
    |((with_reducible refine dw 147 9 5 (.tmp 46) (ga W s.data.toList 10) c 0 16 16 (some 47) underlying147 underlying5 underlying9 HX.out.range U.out.symm ?hgd ?ho ?hd ?hx ?_);(case hgd|ho|hd|hx=>rfl))
    |fail)
   go_ret2;exact⟨⟨_,rfl,ah.mk _⟩,E.out⟩
def lk (w:World) (b:Nat) (l:List UInt8):Prop:=Lib.IsBuilderF 149 5 b b (Lib.byteCells l) w
theorem lk.of {w:World} {b:Nat} {l:List UInt8} (h:gU w b l):lk w b l:=Lib.IsBuilderF.of h
theorem Iq {w a:World} {b c:Nat} {cs:List Value} {t:TypeId} (k:Lib.OthersKept 5 (some b) w a) (h:ac w c cs t) (hn:c≠b) (d:t≠5):ac a c cs t:=
 k c _ h (by intro e;injection e with e;exact hn e) (by intro f g e;injection e with _ e2 _;exact d e2)
theorem sj (b:Nat) (l:List UInt8) (s:ByteArray) (w:World) (h:lk w b l) (hl:l.length+s.size≤140737488355328) (hb:b≤w.heap.size):
  Calls prog 71 #[.pointer (some ⟨b,0,none⟩), .string s] w fun e w'=>e= .returned (.tuple #[.int .i64 s.size, .nilIface])∧lk w' b (l++s.data.toList)∧Below b w w'∧Lib.OthersKept 5 (some b) w w':=by
 refine(Any.Builder_WriteString_k CP FC b b _ s w h (by rw[Lib.byteCells_length];exact hl) hb).mono ?_
 rintro e w' ⟨rfl,hb,a,c⟩;refine⟨rfl, ?_,a,c⟩;unfold lk;rw[byteCells_append];exact .inr hb
theorem mm {T e:TypeId} {B b:Nat} {p:Value} {f:List Value} {w w':World} (h:Lib.BuilderAtF T e B b p f w) (hb:Below w.heap.size w w'):Lib.BuilderAtF T e B b p f w':=by
 obtain⟨j,v,i,a,d⟩:=h;have c:b<w.heap.size:=(Array.getElem?_eq_some_iff.1 i).1;refine⟨j,v,by rw[hb.block b c,i], ?_,d⟩;refine⟨a.1, ?_⟩
 rcases a.2 with hn|⟨g,cap,cur,fz,rfl,hg,hgg,rest⟩
 ·exact .inl hn
 ·refine .inr ⟨g,cap,cur,fz,rfl,hg, ?_,rest⟩
  rw[hb.block g (Array.getElem?_eq_some_iff.1 hgg).1];exact hgg
theorem lk.below {w a:World} {b:Nat} {l:List UInt8} (h:lk w b l) (hb:Below w.heap.size w a):lk a b l:=
 h.imp (fun h=>mm h hb) (fun h=>mm h hb)
theorem A3 (b:Nat) (l:List UInt8) (w:World) (h:lk w b l) (hb:b≤w.heap.size):
  Calls prog 73 #[.pointer (some ⟨b,0,none⟩)] w fun e w'=>e= .returned (.string ⟨l.toArray⟩)∧Below b w w':=
 (Tryz.Builder_String_any_f b b l w h hb).mono fun e w' h=>⟨h.1,h.2.2⟩
end Go.Proofs.YtadooplpfhdhcaaGreat
