/- Walks of the documents' Texts (chapter 1) and Same (chapter 16). Walk of the documents' Same of two proofs (chapter 16). Messages in plain words: which may be, as the document says it; reading leads back; unlike ones are said unlike (chapter 27). No program in sight. -/
import Derived.Test.YtgimkmclgjfddaaGreatQ29
import Derived.Deep.QuietTactic
import Derived.Test.YtgimkmclgjfddaaGreatQ28
import Derived.Test.YtgimkmclgjfddaaGreatQ18
import Derived.BigQuiet
set_option linter.unusedSimpArgs false
set_option linter.unusedVariables false
set_option maxRecDepth 100000
set_option maxHeartbeats 4000000
namespace Go.Proofs.YtgimkmclgjfddaaGreat
open Go Go.RowKit
structure Long (n:Nat):Prop where
 le:n≤9223372036854775807
theorem Long.of {n k:Nat} (h:n≤k) (hk:k≤9223372036854775807):Long n:=⟨Nat.le_trans h hk⟩
theorem aN.at {w:World} {p:Option Addr} {n c:Nat} {xs:List ByteArray} (h:aN w (.slice p n c) xs) (hn:n=xs.length) {k:Nat} {x:ByteArray} (hx:xs[k]?=some x):∃g o,p=some ⟨g,o,none⟩∧w.cell? ⟨g,o+k,none⟩=some (.string x):=by
 rcases h with⟨h1,_⟩|⟨g,o,c',h1,_,_,h2⟩
 ·subst h1;simp at hx
 ·injection h1 with h1 _ _
  exact⟨g,o,h1,h2 k x hx⟩
theorem nF (v v':Value) (xs ys:List ByteArray) (w:World) (h:aN w v xs) (h':aN w v' ys) (hl:Long xs.length) (hl':Long ys.length):
  Calls Tryz.prog 48 #[v,v'] w fun e w'=>e= .returned (.bool (decide (xs=ys)))∧Below w.heap.size w w':=by
 obtain⟨p,c,rfl⟩:=h.shape
 obtain⟨p',c',rfl⟩:=h'.shape
 obtain⟨n,hn⟩:∃n,n=xs.length:=⟨_,rfl⟩
 obtain⟨m,hm⟩:∃m,m=ys.length:=⟨_,rfl⟩
 rw[←hn]at h hl ⊢
 rw[←hm]at h' hl' ⊢
 obtain⟨r,hr⟩:∃r,r=decide (xs=ys):=⟨_,rfl⟩
 rw[←hr]
 have HR:=Lib.hid hr;have HN:=Lib.hid hn;have HM:=Lib.hid hm;have H1:=Lib.hid h;have H2:=Lib.hid h'
 clear hr hn hm h h'
 by_cases hnm:n=m
 ·subst hnm
  go_enter Tryz.func48,Tryz.ntmps48
  go_wp2_with fail
  go_loopw [5] (fun i wr=>∃k:Nat,k≤n∧i= .int .i64 k∧(∀j:Nat,j<k→xs[j]?=ys[j]?)∧Below w.heap.size w wr) (fun i _=>n-(intOf i).toNat)
  case atStart=>exact⟨0,by omega,rfl,fun j hj=>by omega,Below.refl _ _⟩
  case round=>
   obtain⟨k,hk,rfl,hh,hbel⟩:=hrel
   have HH:=Lib.hid hh;clear hh
   have HB:=Lib.hid hbel;clear hbel
   by_cases hlt:k<n
   ·have hlt':(k:Int)<n:=by omega
    have hk9:(k:Int)+1≤9223372036854775807:=by have:=hl.le;omega
    have h00:(0:Int)≤(k:Int):=by omega
    obtain⟨x,hx⟩:∃x,xs[k]?=some x:=⟨_,List.getElem?_eq_getElem (by rw[←HN.out];exact hlt)⟩
    obtain⟨y,hy⟩:∃y,ys[k]?=some y:=⟨_,List.getElem?_eq_getElem (by rw[←HM.out];exact hlt)⟩
    obtain⟨g,o,hp,cx⟩:=(H1.out.below HB.out (Nat.le_refl _)).at HN.out hx
    obtain⟨g',o',hp',cy⟩:=(H2.out.below HB.out (Nat.le_refl _)).at HM.out hy
    subst hp hp'
    have HX:=Lib.hid hx;have HY:=Lib.hid hy
    clear hx hy
    by_cases hxy:x=y
    ·have e1:(x.toList==y.toList)=true:=by rw[hxy];simp
     have HXY:=Lib.hid hxy;clear hxy
     go_wp2_with fail
     go_quiet (fail)
     go_wp2_with fail
     go_roundw
     case rel=>
      refine⟨k+1,by omega,by go_num,fun j hj=> ?_,by first|exact HB.out.drew|exact Below.drewN HB.out _|exact HB.out⟩
      by_cases hjk:j=k
      ·rw[hjk,HX.out,HY.out,HXY.out]
      ·exact HH.out j (by omega)
     case measure=>simp[intOf];omega
    ·have e1:(x.toList==y.toList)=false:=(aj.self x).other (aj.self y) (fun e=>hxy (by
      have h1:=(aj.self x).of
      have h2:=(aj.self y).of
      rw[h1,h2,e]))
     have hf:r=false:=by
      rw[HR.out]
      refine decide_eq_false fun e=>hxy ?_
      have h1:=HX.out
      rw[e,HY.out]at h1
      exact(Option.some.inj h1).symm
     have HF:=Lib.hid hf;clear hf hxy
     go_wp2_with fail
     go_quiet (fail)
     go_wp2_with fail
     go_ret
     exact⟨by rw[HF.out];rfl,by first|exact HB.out.drew|exact Below.drewN HB.out _|exact HB.out⟩
   ·obtain rfl:k=n:=by omega
    have hf:r=true:=by
     rw[HR.out]
     refine decide_eq_true (List.ext_getElem? fun j=> ?_)
     by_cases hj:j<k
     ·exact HH.out j hj
     ·rw[List.getElem?_eq_none (by rw[←HN.out];omega),List.getElem?_eq_none (by rw[←HM.out];omega)]
    have HF:=Lib.hid hf;clear hf
    go_wp2_with fail
    go_ret
    exact⟨by rw[HF.out];rfl,HB.out⟩
 ·have hnm':¬(n:Int)=m:=by omega
  have hf:r=false:=by
   rw[HR.out]
   refine decide_eq_false fun e=>hnm ?_
   rw[HN.out,HM.out,e]
  have HF:=Lib.hid hf;clear hf hnm
  go_enter Tryz.func48,Tryz.ntmps48
  go_wp2_with fail
  go_ret
  exact⟨by rw[HF.out];rfl,Below.refl _ _⟩
def kd (s t:ax):Bool:=decide (s.found=t.found)&&decide (s.at_=t.at_)&&decide (s.here=t.here)&&decide (s.ahead=t.ahead)&&decide (s.up=t.up)&&decide (s.left=t.left)
theorem xC (s t:ax) (u l u' l':Value) (w:World) (hu:aN w u s.up) (hl:aN w l s.left) (hu':aN w u' t.up) (hl':aN w l' t.left) (hul:Long s.up.length) (hll:Long s.left.length) (hul':Long t.up.length) (hll':Long t.left.length):
  Calls Tryz.prog 24 #[.agg (s.pcells u l).toArray, .agg (t.pcells u' l').toArray] w fun e w'=>e= .returned (.bool (kd s t))∧Below w.heap.size w w':=by
 obtain⟨r,hr⟩:∃r,r=kd s t:=⟨_,rfl⟩
 rw[←hr]
 have HR:=Lib.hid hr
 clear hr
 go_enter Tryz.func24,Tryz.ntmps24
 go_wp2_with (first
  |((with_reducible refine ag 33 (.tmp 0) (s.pcells u l) (some 2) ?hgd ?ho ?hd ?hx ?_);(case hgd|ho|hd|hx=>rfl);(intro b1 w1 l1 B1 e1 z1))
  |((with_reducible refine ag 33 (.tmp 1) (t.pcells u' l') (some 3) ?hgd ?ho ?hd ?hx ?_);(case hgd|ho|hd|hx=>rfl);(intro b2 w2 l2 B2 e2 z2);have BB:=B1.below e2 (Nat.lt_of_lt_of_le B1.lt l2);have HB2:Below w.heap.size w w2:=(e1.mono l1).trans (e2.mono (by have:=e1.size;omega));have c0:=BB.cell (i:=0) rfl;have c1:=BB.cell (i:=1) rfl;have c6:=BB.cell (i:=6) rfl;have c7:=BB.cell (i:=7) rfl;have d0:=B2.cell (i:=0) rfl;have d1:=B2.cell (i:=1) rfl;have d6:=B2.cell (i:=6) rfl;have d7:=B2.cell (i:=7) rfl)
  |((with_reducible refine ae 29 (.tmp 18) b1 2 s.here.cells _ (some 19) (BB.lpart2) Tryz.underlying29 rfl da ?hg ?ho ?hds ?hx ?_);(case ho|hg|hds|hx=>rfl))
  |((with_reducible refine ae 29 (.tmp 20) b2 2 t.here.cells _ (some 21) (B2.lpart2) Tryz.underlying29 rfl da ?hg ?ho ?hds ?hx ?_);(case ho|hg|hds|hx=>rfl))
  |((with_reducible refine cP 29 29 (.tmp 19) (.tmp 21) s.here.cells.toArray t.here.cells.toArray _ (some 22) eR (iL s.here t.here _) ?hgd ?ho ?hd ?hx ?hy ?_);(case ho|hgd|hd|hx|hy=>rfl))
  |((with_reducible refine ae 29 (.tmp 25) b1 4 s.ahead.cells _ (some 26) (BB.lpart4) Tryz.underlying29 rfl da ?hg ?ho ?hds ?hx ?_);(case ho|hg|hds|hx=>rfl))
  |((with_reducible refine ae 29 (.tmp 27) b2 4 t.ahead.cells _ (some 28) (B2.lpart4) Tryz.underlying29 rfl da ?hg ?ho ?hds ?hx ?_);(case ho|hg|hds|hx=>rfl))
  |((with_reducible refine cP 29 29 (.tmp 26) (.tmp 28) s.ahead.cells.toArray t.ahead.cells.toArray _ (some 29) eR (iL s.ahead t.ahead _) ?hgd ?ho ?hd ?hx ?hy ?_);(case ho|hgd|hd|hx|hy=>rfl))
  |(have _:=HB3;go_at_call 48;refine(nF l l' s.left t.left _ (hl.below HB3 (Nat.le_refl _)) (hl'.below HB3 (Nat.le_refl _)) hll hll').mono ?_;rintro e4 w4 ⟨rfl,hb4⟩;have HB4:=HB3.trans (hb4.mono HB3.size))
  |(go_at_call 48;refine(nF u u' s.up t.up _ (hu.below HB2 (Nat.le_refl _)) (hu'.below HB2 (Nat.le_refl _)) hul hul').mono ?_;rintro e3 w3 ⟨rfl,hb3⟩;have HB3:=HB2.trans (hb3.mono HB2.size);have P1:=BB.below hb3 BB.lt;have P2:=B2.below hb3 B2.lt;have x6:=P1.cell (i:=6) rfl;have x7:=P1.cell (i:=7) rfl;have y6:=P2.cell (i:=6) rfl;have y7:=P2.cell (i:=7) rfl)
  |fail)
 all_goals go_ret
 all_goals refine⟨bp ?_, ?_⟩
 all_goals first|exact HB4|exact HB3|exact HB2|skip
 all_goals(rw[HR.out];unfold kd;simp_all)
def tI (t:ax):ax:=if t.gone then⟨t.askE,t.askL,true,false,0,aM.zero,aM.zero,[],[],0,⟨#[]⟩⟩else t
def tJ (m:ac):ac:=
 ⟨m.kind,if m.kind=2∨m.kind=3∨m.kind=4 then m.epoch else 0,if 4≤m.kind∧m.kind≤6 then m.seq else 0,if m.kind≠10 then m.nonce else⟨#[]⟩,
  if m.kind=3∨m.kind=4 then m.tag else⟨#[]⟩,if m.kind=4 then m.last else⟨#[]⟩,if m.kind=7 then m.askE else 0,if m.kind=7 then m.askL else 0,
  if m.kind=6 then m.sld else aH.zero,if m.kind=8 then tI m.told else ax.zero,if m.kind=10 then m.rcp else aK.zero⟩
def oh (t:ax):Bool:=fE t.askE t.askL&&cj t.slot&&decide ((t.cipher.size:Int)≤4000)&&(decide (0≤t.at_)&&decide (t.at_≤4096))&&cV t.here&&cV t.ahead&&(decide (t.up.length≤12)&&decide (t.left.length≤12)&&dG t.up&&dG t.left)
theorem Gf (t:ax):dz t=true↔(t=tI t∧oh t=true):=by
 obtain⟨e,l,g,f,a,h,ah,u,le,s,c⟩:=t
 cases g with
 |false=>simp[dz,tI,oh]
 |true=>
  simp only[dz,tI,oh,mp,if_true,Bool.and_eq_true,Bool.not_eq_true',decide_eq_true_eq,ax.mk.injEq]
  constructor
  ·rintro⟨h1,⟨⟨⟨⟨⟨⟨h2,h3⟩,h4⟩,h5⟩,h6⟩,h7⟩,h8⟩⟩
   have hu:u=[]:=List.length_eq_zero_iff.1 (by omega)
   have hl:le=[]:=List.length_eq_zero_iff.1 (by omega)
   subst h2 h3 h4 h5 h6 h7 hu hl
   refine⟨by simp, ?_⟩
   refine⟨⟨⟨⟨⟨⟨h1,by decide⟩,by decide⟩,by decide⟩,by decide⟩,by decide⟩,by decide⟩
  ·rintro⟨⟨_,_,_,h4,h5,h6,h7,h8,h9,h2,h3⟩,h⟩
   subst h2 h3 h4 h5 h6 h7 h8 h9
   exact⟨h.1.1.1.1.1.1,by decide⟩
theorem CQ {xs:List ByteArray} (h:dG xs=true):∀x∈xs,x.size=32:=by
 intro x hx
 have:=List.all_eq_true.1 h x hx
 simpa using this
def iR (s:List UInt8):Option (ac×List UInt8):=
 match bq true 1 0 s with
 |none=>none
 |some (k,s1)=>aB true false {ac.zero with kind:=k} s1
open Go.ChangeShapes Go.WideShapes Go.Deep
structure ei (w:World) (m:ac) (u l:Value):Prop where
 kind:Fits m.kind
 epoch:Fits m.epoch
 seq:Fits m.seq
 nonce:Long m.nonce.size
 tag:Long m.tag.size
 last:Long m.last.size
 sld:lI m.sld.r
 rcp:yq m.rcp
 at_:Fits m.told.at_
 slot:Fits m.told.slot
 up:aN w u m.told.up
 left:aN w l m.told.left
 upl:Long m.told.up.length
 leftl:Long m.told.left.length
theorem aN.of_strs {w:World} {v:Value} {xs:List ByteArray} (h:kD w v xs):aN w v xs:=by
 rcases h.row with h1|⟨g,o,c,h1,hc,h2,h3⟩
 ·exact .inl h1
 ·exact .inr ⟨g,o,c,h1,h2,fun hm=>(List.not_mem_nil hm).elim,h3⟩
section
variable {H:Type} {enc:TypeId×Value→H} {w:World} {base:Nat} {spare:Nat→Bool} {held:Bool}
theorem rM {fuel:Nat} {cs:List Value} {x:DataW H×List MemPlace} (h:DataW.trod enc Tryz.prog w base spare held fuel 31 cs=some x):∃v xs,cs=[v]∧aN w v xs∧Long xs.length:=by
 have hh:=h
 rcases open_strings Tryz.underlying31 Tryz.underlying9 (by kernel_rfl) h with⟨hcs,_⟩|⟨a,len,cap,zs,hcs,_,hl,hm,hz,_,hcell,hwf⟩
 ·exact⟨_,[],hcs,aJ.nil _ _,⟨by simp⟩⟩
 ·obtain⟨xs,hx⟩:=Gy (v:= .slice (some a) len cap) Tryz.underlying31 Tryz.underlying9 (by kernel_rfl) ⟨_,_,_,rfl⟩ (⟨fuel,by rw[hcs]at hh;simpa[Value.cells]using hh⟩:DataW.Trod enc Tryz.prog w base spare held 31 (.slice (some a) len cap) x.1 x.2)
  refine⟨_,xs,hcs,aN.of_strs hx,⟨?_⟩⟩
  have hl2:xs.length=len:=by
   obtain⟨p,c,hp⟩:=(aN.of_strs hx).shape
   injection hp with _ hp _
   exact hp.symm
  have:maxLen=9223372036854775807:=rfl
  omega
theorem vD {fuel:Nat} {cs:List Value} {x:DataW H×List MemPlace} (h:DataW.trod enc Tryz.prog w base spare held fuel 23 cs=some x):∃p:Int×Int,cs=[.int .i64 p.1, .int .i64 p.2]∧Fits p.1∧Fits p.2:=by
 obtain⟨xs,n,_,_,hl,hlen,hf⟩:=DataW.trod_struct Tryz.underlying23 h
 have hc:Tryz.prog.cellsOf 23=2:=by kernel_rfl
 have kk0:Tryz.prog.cellsOf 3=1:=by kernel_rfl
 rw[hc]at hl
 match xs,hlen with
 |[y0,y1],_=>
  have g0:DataW.trod enc Tryz.prog w base spare held n 3 (List.take (Tryz.prog.cellsOf 3) (List.drop 0 cs))=some y0:=hf 0 _ rfl
  rw[kk0]at g0
  have g1:DataW.trod enc Tryz.prog w base spare held n 3 (List.take (Tryz.prog.cellsOf 3) (List.drop 1 cs))=some y1:=hf 1 _ rfl
  rw[kk0]at g1
  obtain⟨n0,e0,_,f0⟩:=DataW.trod_int Tryz.underlying3 g0
  obtain⟨n1,e1,_,f1⟩:=DataW.trod_int Tryz.underlying3 g1
  have ee:cs=(cs.drop 0).take 1++((cs.drop 1).take 1):=by
   match cs,hl with
   |[_,_],_=>rfl
  rw[ee,e0,e1]
  exact⟨(n0,n1),rfl,cr f0,cr f1⟩
theorem rN {fuel:Nat} {cs:List Value} {x:DataW H×List MemPlace} (h:DataW.trod enc Tryz.prog w base spare held fuel 29 cs=some x):∃y:aM,cs=y.cells∧Fits y.lba:=by
 obtain⟨xs,n,_,_,hl,hlen,hf⟩:=DataW.trod_struct Tryz.underlying29 h
 have hc:Tryz.prog.cellsOf 29=2:=by kernel_rfl
 have kk0:Tryz.prog.cellsOf 3=1:=by kernel_rfl
 have kk1:Tryz.prog.cellsOf 9=1:=by kernel_rfl
 rw[hc]at hl
 match xs,hlen with
 |[y0,y1],_=>
  have g0:DataW.trod enc Tryz.prog w base spare held n 3 (List.take (Tryz.prog.cellsOf 3) (List.drop 0 cs))=some y0:=hf 0 _ rfl
  rw[kk0]at g0
  have g1:DataW.trod enc Tryz.prog w base spare held n 9 (List.take (Tryz.prog.cellsOf 9) (List.drop 1 cs))=some y1:=hf 1 _ rfl
  rw[kk1]at g1
  obtain⟨n0,e0,_,f0⟩:=DataW.trod_int Tryz.underlying3 g0
  obtain⟨n1,e1,_,f1⟩:=DataW.trod_string Tryz.underlying9 g1
  have ee:cs=(cs.drop 0).take 1++((cs.drop 1).take 1):=by
   match cs,hl with
   |[_,_],_=>rfl
  rw[ee,e0,e1]
  exact⟨⟨n0,n1⟩,rfl,cr f0⟩
structure vE (w:World) (t:ax) (u l:Value):Prop where
 at_:Fits t.at_
 up:aN w u t.up
 left:aN w l t.left
 upl:Long t.up.length
 leftl:Long t.left.length
theorem zS {fuel:Nat} {cs:List Value} {x:DataW H×List MemPlace} (h:DataW.trod enc Tryz.prog w base spare held fuel 33 cs=some x):∃(t:ax) (u l:Value),cs=t.pcells u l∧vE w t u l:=by
 obtain⟨xs,n,_,_,hl,hlen,hf⟩:=DataW.trod_struct Tryz.underlying33 h
 have hc:Tryz.prog.cellsOf 33=8:=by kernel_rfl
 have kk0:Tryz.prog.cellsOf 29=2:=by kernel_rfl
 have kk1:Tryz.prog.cellsOf 31=1:=by kernel_rfl
 have kk2:Tryz.prog.cellsOf 4=1:=by kernel_rfl
 have kk3:Tryz.prog.cellsOf 3=1:=by kernel_rfl
 rw[hc]at hl
 match xs,hlen with
 |[y0,y1,y2,y3,y4,y5],_=>
  have g0:DataW.trod enc Tryz.prog w base spare held n 4 (List.take (Tryz.prog.cellsOf 4) (List.drop 0 cs))=some y0:=hf 0 _ rfl
  rw[kk2]at g0
  have g1:DataW.trod enc Tryz.prog w base spare held n 3 (List.take (Tryz.prog.cellsOf 3) (List.drop 1 cs))=some y1:=hf 1 _ rfl
  rw[kk3]at g1
  have g2:DataW.trod enc Tryz.prog w base spare held n 29 (List.take (Tryz.prog.cellsOf 29) (List.drop 2 cs))=some y2:=hf 2 _ rfl
  rw[kk0]at g2
  have g3:DataW.trod enc Tryz.prog w base spare held n 29 (List.take (Tryz.prog.cellsOf 29) (List.drop 4 cs))=some y3:=hf 3 _ rfl
  rw[kk0]at g3
  have g4:DataW.trod enc Tryz.prog w base spare held n 31 (List.take (Tryz.prog.cellsOf 31) (List.drop 6 cs))=some y4:=hf 4 _ rfl
  rw[kk1]at g4
  have g5:DataW.trod enc Tryz.prog w base spare held n 31 (List.take (Tryz.prog.cellsOf 31) (List.drop 7 cs))=some y5:=hf 5 _ rfl
  rw[kk1]at g5
  obtain⟨n0,e0,_⟩:=DataW.trod_bool Tryz.underlying4 g0
  obtain⟨n1,e1,_,f1⟩:=DataW.trod_int Tryz.underlying3 g1
  obtain⟨n2,e2,f2⟩:=rN g2
  obtain⟨n3,e3,f3⟩:=rN g3
  obtain⟨v4,n4,e4,r4,f4⟩:=rM g4
  obtain⟨v5,n5,e5,r5,f5⟩:=rM g5
  have ee:cs=(cs.drop 0).take 1++((cs.drop 1).take 1++((cs.drop 2).take 2++((cs.drop 4).take 2++((cs.drop 6).take 1++((cs.drop 7).take 1))))):=by
   match cs,hl with
   |[_,_,_,_,_,_,_,_],_=>rfl
  rw[ee,e0,e1,e2,e3,e4,e5]
  exact⟨⟨0,0,false,n0,n1,n2,n3,n4,n5,0,⟨#[]⟩⟩,v4,v5,rfl,cr f1,r4,r5,f4,f5⟩
theorem CU {fuel:Nat} {cs:List Value} {x:DataW H×List MemPlace} (h:DataW.trod enc Tryz.prog w base spare held fuel 35 cs=some x):∃(t:ax) (u l:Value),cs=t.cells u l∧vE w t u l∧Fits t.slot:=by
 obtain⟨xs,n,_,_,hl,hlen,hf⟩:=DataW.trod_struct Tryz.underlying35 h
 have hc:Tryz.prog.cellsOf 35=13:=by kernel_rfl
 have kk0:Tryz.prog.cellsOf 23=2:=by kernel_rfl
 have kk1:Tryz.prog.cellsOf 33=8:=by kernel_rfl
 have kk2:Tryz.prog.cellsOf 4=1:=by kernel_rfl
 have kk3:Tryz.prog.cellsOf 3=1:=by kernel_rfl
 have kk4:Tryz.prog.cellsOf 9=1:=by kernel_rfl
 rw[hc]at hl
 match xs,hlen with
 |[y0,y1,y2,y3,y4],_=>
  have g0:DataW.trod enc Tryz.prog w base spare held n 23 (List.take (Tryz.prog.cellsOf 23) (List.drop 0 cs))=some y0:=hf 0 _ rfl
  rw[kk0]at g0
  have g1:DataW.trod enc Tryz.prog w base spare held n 4 (List.take (Tryz.prog.cellsOf 4) (List.drop 2 cs))=some y1:=hf 1 _ rfl
  rw[kk2]at g1
  have g2:DataW.trod enc Tryz.prog w base spare held n 33 (List.take (Tryz.prog.cellsOf 33) (List.drop 3 cs))=some y2:=hf 2 _ rfl
  rw[kk1]at g2
  have g3:DataW.trod enc Tryz.prog w base spare held n 3 (List.take (Tryz.prog.cellsOf 3) (List.drop 11 cs))=some y3:=hf 3 _ rfl
  rw[kk3]at g3
  have g4:DataW.trod enc Tryz.prog w base spare held n 9 (List.take (Tryz.prog.cellsOf 9) (List.drop 12 cs))=some y4:=hf 4 _ rfl
  rw[kk4]at g4
  obtain⟨n0,e0,f0⟩:=vD g0
  obtain⟨n1,e1,_⟩:=DataW.trod_bool Tryz.underlying4 g1
  obtain⟨n2,u2,l2,e2,f2⟩:=zS g2
  obtain⟨n3,e3,_,f3⟩:=DataW.trod_int Tryz.underlying3 g3
  obtain⟨n4,e4,_,f4⟩:=DataW.trod_string Tryz.underlying9 g4
  have ee:cs=(cs.drop 0).take 2++((cs.drop 2).take 1++((cs.drop 3).take 8++((cs.drop 11).take 1++((cs.drop 12).take 1)))):=by
   match cs,hl with
   |[_,_,_,_,_,_,_,_,_,_,_,_,_],_=>rfl
  rw[ee,e0,e1,e2,e3,e4]
  exact⟨{n2 with askE:=n0.1,askL:=n0.2,gone:=n1,slot:=n3,cipher:=n4},u2,l2,rfl,⟨f2.at_,f2.up,f2.left,f2.upl,f2.leftl⟩,cr f3⟩
theorem EF {fuel:Nat} {cs:List Value} {x:DataW H×List MemPlace} (h:DataW.trod enc Tryz.prog w base spare held fuel 39 cs=some x):∃(m:ac) (u l:Value),cs=m.cells u l∧ei w m u l:=by
 obtain⟨xs,n,_,_,hl,hlen,hf⟩:=DataW.trod_struct Tryz.underlying39 h
 have hc:Tryz.prog.cellsOf 39=41:=by kernel_rfl
 have kk0:Tryz.prog.cellsOf 23=2:=by kernel_rfl
 have kk1:Tryz.prog.cellsOf 37=11:=by kernel_rfl
 have kk2:Tryz.prog.cellsOf 27=9:=by kernel_rfl
 have kk3:Tryz.prog.cellsOf 35=13:=by kernel_rfl
 have kk4:Tryz.prog.cellsOf 3=1:=by kernel_rfl
 have kk5:Tryz.prog.cellsOf 9=1:=by kernel_rfl
 rw[hc]at hl
 match xs,hlen with
 |[y0,y1,y2,y3,y4,y5,y6,y7,y8,y9],_=>
  have g0:DataW.trod enc Tryz.prog w base spare held n 3 (List.take (Tryz.prog.cellsOf 3) (List.drop 0 cs))=some y0:=hf 0 _ rfl
  rw[kk4]at g0
  have g1:DataW.trod enc Tryz.prog w base spare held n 3 (List.take (Tryz.prog.cellsOf 3) (List.drop 1 cs))=some y1:=hf 1 _ rfl
  rw[kk4]at g1
  have g2:DataW.trod enc Tryz.prog w base spare held n 3 (List.take (Tryz.prog.cellsOf 3) (List.drop 2 cs))=some y2:=hf 2 _ rfl
  rw[kk4]at g2
  have g3:DataW.trod enc Tryz.prog w base spare held n 9 (List.take (Tryz.prog.cellsOf 9) (List.drop 3 cs))=some y3:=hf 3 _ rfl
  rw[kk5]at g3
  have g4:DataW.trod enc Tryz.prog w base spare held n 9 (List.take (Tryz.prog.cellsOf 9) (List.drop 4 cs))=some y4:=hf 4 _ rfl
  rw[kk5]at g4
  have g5:DataW.trod enc Tryz.prog w base spare held n 9 (List.take (Tryz.prog.cellsOf 9) (List.drop 5 cs))=some y5:=hf 5 _ rfl
  rw[kk5]at g5
  have g6:DataW.trod enc Tryz.prog w base spare held n 23 (List.take (Tryz.prog.cellsOf 23) (List.drop 6 cs))=some y6:=hf 6 _ rfl
  rw[kk0]at g6
  have g7:DataW.trod enc Tryz.prog w base spare held n 27 (List.take (Tryz.prog.cellsOf 27) (List.drop 8 cs))=some y7:=hf 7 _ rfl
  rw[kk2]at g7
  have g8:DataW.trod enc Tryz.prog w base spare held n 35 (List.take (Tryz.prog.cellsOf 35) (List.drop 17 cs))=some y8:=hf 8 _ rfl
  rw[kk3]at g8
  have g9:DataW.trod enc Tryz.prog w base spare held n 37 (List.take (Tryz.prog.cellsOf 37) (List.drop 30 cs))=some y9:=hf 9 _ rfl
  rw[kk1]at g9
  obtain⟨n0,e0,_,f0⟩:=DataW.trod_int Tryz.underlying3 g0
  obtain⟨n1,e1,_,f1⟩:=DataW.trod_int Tryz.underlying3 g1
  obtain⟨n2,e2,_,f2⟩:=DataW.trod_int Tryz.underlying3 g2
  obtain⟨n3,e3,_,f3⟩:=DataW.trod_string Tryz.underlying9 g3
  obtain⟨n4,e4,_,f4⟩:=DataW.trod_string Tryz.underlying9 g4
  obtain⟨n5,e5,_,f5⟩:=DataW.trod_string Tryz.underlying9 g5
  obtain⟨n6,e6,f6⟩:=vD g6
  obtain⟨n7,e7,f7⟩:=DX g7
  obtain⟨n8,u8,l8,e8,f8⟩:=CU g8
  obtain⟨n9,e9,f9⟩:=Ec g9
  have ee:cs=(cs.drop 0).take 1++((cs.drop 1).take 1++((cs.drop 2).take 1++((cs.drop 3).take 1++((cs.drop 4).take 1++((cs.drop 5).take 1++((cs.drop 6).take 2++((cs.drop 8).take 9++((cs.drop 17).take 13++((cs.drop 30).take 11))))))))):=by
   have d0:cs.drop 0=(cs.drop 0).take 1++cs.drop 1:=by rw[show cs.drop 1=(cs.drop 0).drop 1 by rw[List.drop_drop],List.take_append_drop]
   have d1:cs.drop 1=(cs.drop 1).take 1++cs.drop 2:=by rw[show cs.drop 2=(cs.drop 1).drop 1 by rw[List.drop_drop],List.take_append_drop]
   have d2:cs.drop 2=(cs.drop 2).take 1++cs.drop 3:=by rw[show cs.drop 3=(cs.drop 2).drop 1 by rw[List.drop_drop],List.take_append_drop]
   have d3:cs.drop 3=(cs.drop 3).take 1++cs.drop 4:=by rw[show cs.drop 4=(cs.drop 3).drop 1 by rw[List.drop_drop],List.take_append_drop]
   have d4:cs.drop 4=(cs.drop 4).take 1++cs.drop 5:=by rw[show cs.drop 5=(cs.drop 4).drop 1 by rw[List.drop_drop],List.take_append_drop]
   have d5:cs.drop 5=(cs.drop 5).take 1++cs.drop 6:=by rw[show cs.drop 6=(cs.drop 5).drop 1 by rw[List.drop_drop],List.take_append_drop]
   have d6:cs.drop 6=(cs.drop 6).take 2++cs.drop 8:=by rw[show cs.drop 8=(cs.drop 6).drop 2 by rw[List.drop_drop],List.take_append_drop]
   have d7:cs.drop 8=(cs.drop 8).take 9++cs.drop 17:=by rw[show cs.drop 17=(cs.drop 8).drop 9 by rw[List.drop_drop],List.take_append_drop]
   have d8:cs.drop 17=(cs.drop 17).take 13++cs.drop 30:=by rw[show cs.drop 30=(cs.drop 17).drop 13 by rw[List.drop_drop],List.take_append_drop]
   have dl:(cs.drop 30).take 11=cs.drop 30:=List.take_of_length_le (by rw[List.length_drop,hl];omega)
   rw[dl,←d8,←d7,←d6,←d5,←d4,←d3,←d2,←d1,←d0]
   rfl
  rw[ee,e0,e1,e2,e3,e4,e5,e6,e7,e8,e9]
  have l3:Long n3.size:=⟨by have:maxLen=9223372036854775807:=rfl;omega⟩
  have l4:Long n4.size:=⟨by have:maxLen=9223372036854775807:=rfl;omega⟩
  have l5:Long n5.size:=⟨by have:maxLen=9223372036854775807:=rfl;omega⟩
  exact⟨⟨n0,n1,n2,n3,n4,n5,n6.1,n6.2,n7,n8,n9⟩,u8,l8,rfl,⟨cr f0,cr f1,cr f2,l3,l4,l5,f7,f9,f8.1.at_,f8.2,f8.1.up,f8.1.left,f8.1.upl,f8.1.leftl⟩⟩
theorem Ix {v:Value} {d:DataW H} {ps:List MemPlace} (hv:∃cs,v= .agg cs∧cs.size=Tryz.prog.cellsOf 39) (h:DataW.Trod enc Tryz.prog w base spare held 39 v d ps):∃(m:ac) (u l:Value),v=m.v u l∧ei w m u l:=by
 obtain⟨cs,rfl,_⟩:=hv
 obtain⟨fuel,hf⟩:=h
 obtain⟨m,u,l,hx,hfit⟩:=EF hf
 refine⟨m,u,l, ?_,hfit⟩
 have:cs.toList=m.cells u l:=by simpa[Value.cells]using hx
 show Value.agg cs=Value.agg (m.cells u l).toArray
 rw[←this]
end
theorem mT (v:Value) (xs:List ByteArray) (w:World) (h:aN w v xs) (hx:xs.length≤2000):
  Calls Tryz.prog 28 #[v] w fun e w'=>e= .returned (.int .i64 (fh xs:Nat))∧w=w':=by
 by_cases c0:xs=[]
 ·subst c0
  obtain⟨p,c,rfl⟩:=h.shape
  clear h
  go_enter Tryz.func28,Tryz.ntmps28
  go_wp2_with fail
  go_loop [3,4] (fun n i=>n= .int .i64 0∧i= .int .i64 0) (fun _ i=>0)
  case atStart=>exact⟨rfl,rfl⟩
  case round=>
   obtain⟨rfl,rfl⟩:=hrel
   go_wp2_with fail
   go_ret
   exact⟨rfl,rfl⟩
 rcases h with⟨rfl,_⟩|⟨g,o,c,rfl,hg,_,hc⟩
 ·exact absurd rfl c0
 clear c0
 have HC:=Lib.hid hc;clear hc
 go_enter Tryz.func28,Tryz.ntmps28
 go_wp2_with fail
 go_loop [3,4] (fun n i=>∃k m:Nat,k≤xs.length∧i= .int .i64 k∧n= .int .i64 m∧m=fh (xs.take k)∧m≤100000*k) (fun _ i=>xs.length-(intOf i).toNat)
 case atStart=>exact⟨0,0,by omega,rfl,rfl,rfl,by omega⟩
 case round=>
  obtain⟨k,m,hk,rfl,rfl,hm,hm2⟩:=hrel
  have HM:=Lib.hid hm;clear hm
  by_cases hlt:k<xs.length
  ·have hlt':(k:Int)<xs.length:=by omega
   obtain⟨x,hxk⟩:∃x,xs[k]?=some x:=⟨_,List.getElem?_eq_getElem hlt⟩
   have ck:=HC.out k x hxk
   have HX:=Lib.hid hxk;clear hxk
   have hk2:(k:Int)<2000:=by omega
   by_cases hb:x.size≤100000
   ·have e1:min (x.size:Int) 100000=(x.size:Int):=by omega
    have HE:=Lib.hid e1;clear e1
    have hb':(x.size:Int)≤100000:=by omega
    go_wp2_with fail
    go_round
    case rel=>
     refine⟨k+1,m+x.size,by omega,by go_num, ?_,by rw[oZ _ _ _ HX.out,←HM.out];omega,by omega⟩
     try rw[HE.out]
     go_num
    case measure=>simp[intOf];omega
   ·have e1:min (x.size:Int) 100000=100000:=by omega
    have HE:=Lib.hid e1;clear e1
    have hb':(100000:Int)<x.size:=by omega
    go_wp2_with fail
    go_round
    case rel=>
     refine⟨k+1,m+100000,by omega,by go_num, ?_,by rw[oZ _ _ _ HX.out,←HM.out];omega,by omega⟩
     try rw[HE.out]
     go_num
    case measure=>simp[intOf];omega
  ·obtain rfl:k=xs.length:=by omega
   go_wp2_with fail
   go_ret
   refine⟨?_,rfl⟩
   rw[show fh xs=m by rw[HM.out,List.take_length]]
   rfl
def nG (t:ax):Bool:=decide (t.up.length≤30)&&decide (t.left.length≤30)&&decide (min t.here.hash.size 10000+min t.ahead.hash.size 10000+fh t.up+fh t.left≤8000)
theorem zT (t:ax) (u l:Value) (w:World) (hu:aN w u t.up) (hl:aN w l t.left) (hul:Long t.up.length) (hll:Long t.left.length):
  Calls Tryz.prog 13 #[.slice none 0 0, .agg (t.pcells u l).toArray] w fun e w'=>e= .returned (.bool (nG t))∧Below w.heap.size w w':=by
 obtain⟨r,hr⟩:∃r,r=nG t:=⟨_,rfl⟩
 rw[←hr]
 have HR:=Lib.hid hr;clear hr
 obtain⟨p,c,rfl⟩:=hu.shape
 obtain⟨p',c',rfl⟩:=hl.shape
 have HU:=Lib.hid hu;clear hu
 have HL:=Lib.hid hl;clear hl
 go_enter Tryz.func13,Tryz.ntmps13
 go_wp2_with ((with_reducible refine ag 33 (.tmp 1) (t.pcells (.slice p t.up.length c) (.slice p' t.left.length c')) (some 3) ?hgd ?ho ?hd ?hx ?_);(case hgd|ho|hd|hx=>rfl);(intro b1 w1 l1 B1 e1 z1))
 have hb1:Below w.heap.size w w1:=e1.mono l1
 have c3:=B1.cell (i:=3) rfl
 have c5:=B1.cell (i:=5) rfl
 have c6:=B1.cell (i:=6) rfl
 have c7:=B1.cell (i:=7) rfl
 clear e1 l1 z1
 have HB:=Lib.hid hb1;clear hb1
 go_loop [5,6] (fun n i=>n= .int .i64 0∧i= .int .i64 0) (fun _ i=>0)
 case atStart=>exact⟨rfl,rfl⟩
 case round=>
  obtain⟨rfl,rfl⟩:=hrel
  by_cases h1:t.up.length≤30
  rotate_left
  ·have hf:r=false:=by rw[HR.out];simp[nG,h1]
   have HF:=Lib.hid hf;clear hf
   have h1':¬(t.up.length:Int)≤30:=by omega
   have d1:decide (t.up.length≤30)=false:=decide_eq_false h1
   have d1':decide ((t.up.length:Int)≤30)=false:=decide_eq_false h1'
   go_wp2_with fail
   go_quiet (fail)
   go_wp2_with fail
   go_ret
   exact⟨by rw[HF.out];rfl,by first|exact HB.out.drew|exact Below.drewN HB.out _|exact HB.out⟩
  have h1':(t.up.length:Int)≤30:=by omega
  have d1:decide (t.up.length≤30)=true:=decide_eq_true h1
  have d1':decide ((t.up.length:Int)≤30)=true:=decide_eq_true h1'
  by_cases h2:t.left.length≤30
  rotate_left
  ·have hf:r=false:=by rw[HR.out];simp[nG,h2]
   have HF:=Lib.hid hf;clear hf
   have h2':¬(t.left.length:Int)≤30:=by omega
   have d2:decide (t.left.length≤30)=false:=decide_eq_false h2
   have d2':decide ((t.left.length:Int)≤30)=false:=decide_eq_false h2'
   go_wp2_with fail
   go_quiet (fail)
   go_wp2_with fail
   go_ret
   exact⟨by rw[HF.out];rfl,by first|exact HB.out.drew|exact Below.drewN HB.out _|exact HB.out⟩
  have h2':(t.left.length:Int)≤30:=by omega
  have d2:decide (t.left.length≤30)=true:=decide_eq_true h2
  have d2':decide ((t.left.length:Int)≤30)=true:=decide_eq_true h2'
  have n1:=r7 t.up
  have n2:=r7 t.left
  obtain⟨x,hx⟩:∃x,x=fh t.up:=⟨_,rfl⟩
  obtain⟨y,hy⟩:∃y,y=fh t.left:=⟨_,rfl⟩
  have hx2:(x:Int)≤3000000:=by omega
  have hy2:(y:Int)≤3000000:=by omega
  have k1:∀n,Calls Tryz.prog 28 #[.slice p t.up.length c] (w1.drewN n) fun e w'=>e= .returned (.int .i64 (x:Int))∧w'=w1.drewN n:=fun n=>
   (mT _ t.up _ ((aN.below HU.out HB.out (Nat.le_refl _)).turned ((aa.refl _ _).drewN n)) (by omega)).mono (by rintro e w' ⟨rfl,rfl⟩;exact⟨by rw[hx],rfl⟩)
  have k2:∀n,Calls Tryz.prog 28 #[.slice p' t.left.length c'] (w1.drewN n) fun e w'=>e= .returned (.int .i64 (y:Int))∧w'=w1.drewN n:=fun n=>
   (mT _ t.left _ ((aN.below HL.out HB.out (Nat.le_refl _)).turned ((aa.refl _ _).drewN n)) (by omega)).mono (by rintro e w' ⟨rfl,rfl⟩;exact⟨by rw[hy],rfl⟩)
  have hv:r=decide (min t.here.hash.size 10000+min t.ahead.hash.size 10000+x+y≤8000):=by
   rw[HR.out,nG,←hx,←hy,decide_eq_true h1,decide_eq_true h2,Bool.true_and,Bool.true_and]
  have HV:=Lib.hid hv;clear hv
  have HXX:=Lib.hid hx;clear hx
  have HYY:=Lib.hid hy;clear hy
  clear n1 n2
  by_cases g1:t.here.hash.size≤10000
  all_goals by_cases g2:t.ahead.hash.size≤10000
  all_goals
   first
   |have g1':(t.here.hash.size:Int)≤10000:=by omega
   |have g1':(10000:Int)<t.here.hash.size:=by omega
   first
   |have g2':(t.ahead.hash.size:Int)≤10000:=by omega
   |have g2':(10000:Int)<t.ahead.hash.size:=by omega
   go_wp2_with fail
   go_quiet ((go_at_call 28;first|(with_reducible exact Calls.quiet_of_same (k1 _))|(with_reducible exact Calls.quiet_of_same (k2 _))))
   go_wp2_with fail
   go_ret
   refine⟨bp ?_,by first|exact HB.out.drew|exact Below.drewN HB.out _|exact HB.out⟩
   rw[HV.out,Bool.eq_iff_iff]
   simp only[decide_eq_true_eq]
   omega
theorem ac.proofAt (m:ac) (u l:Value):m.cells u l=(m.cells u l).take 20++m.told.pcells u l++(m.cells u l).drop 28:=rfl
structure zU (m:ac):Prop where
 sld:jD m.sld.r=true
 stag:m.sld.tag.size≤1000
 rcp:iD m.rcp=true
 cipher:m.told.cipher.size≤8000
 proof:nG m.told=true
def nH (m:ac) (e:Ending):Prop:=∃q,e= .returned (.bool q)∧(q=true→zU m)
theorem nH.no {m:ac} {e:Ending} (h:e= .returned (.bool false)):nH m e:=⟨false,h,fun h=>by cases h⟩
theorem nH.any {m:ac} {e:Ending} {q:Bool} (he:e= .returned (.bool q)) (h:q=true→zU m):nH m e:=⟨q,he,h⟩
def gB (m:ac):Int:=wrap64 (wrap64 ((m.nonce.size:Int)+(m.tag.size:Int))+(m.last.size:Int))
theorem Gg (m:ac) (u l:Value) (w:World) (hf:ei w m u l) (h0:¬gB m≤3000):
  Calls Tryz.prog 4 #[m.v u l] w fun e w'=>e= .returned (.bool false)∧Below w.heap.size w w':=by
 have HF:=Lib.hid hf;clear hf
 unfold gB at h0
 go_enter Tryz.func4,Tryz.ntmps4
 go_wp2_with (first
  |((with_reducible refine ag 39 (.tmp 0) (m.cells u l) (some 1) ?hgd ?ho ?hd ?hx ?_);(case hgd|ho|hd|hx=>rfl);(intro b w0 l0 B e0 z0);have HB0:Below w.heap.size w w0:=e0.mono l0;have c3:=B.cell (i:=3) rfl;have c4:=B.cell (i:=4) rfl;have c5:=B.cell (i:=5) rfl)
  |fail)
 go_ret
 exact⟨rfl,HB0⟩
theorem Gh (m:ac) (u l:Value) (w:World) (hf:ei w m u l) (h0:gB m≤3000) (h1:jD m.sld.r=false):
  Calls Tryz.prog 4 #[m.v u l] w fun e w'=>e= .returned (.bool false)∧Below w.heap.size w w':=by
 have HF:=Lib.hid hf;clear hf
 unfold gB at h0
 have H1:=Lib.hid h1;clear h1
 go_enter Tryz.func4,Tryz.ntmps4
 go_wp2_with (first
  |((with_reducible refine ag 39 (.tmp 0) (m.cells u l) (some 1) ?hgd ?ho ?hd ?hx ?_);(case hgd|ho|hd|hx=>rfl);(intro b w0 l0 B e0 z0);have HB0:Below w.heap.size w w0:=e0.mono l0;have c3:=B.cell (i:=3) rfl;have c4:=B.cell (i:=4) rfl;have c5:=B.cell (i:=5) rfl)
  |((with_reducible refine ae 25 (.tmp 17) b 8 m.sld.r.cells _ (some 18) ((B.ext (m.recAt u l)).part (off:=8) rfl) Tryz.underlying25 rfl aI ?hg ?ho ?hds ?hx ?_);(case ho|hg|hds|hx=>rfl))
  |(go_at_call 11;refine(gv m.sld.r _).mono ?_;rintro e w1 ⟨he,hb1⟩;rw[H1.out]at he;subst he;have B2:=B.below hb1 B.lt;have HB1:=HB0.trans (hb1.mono HB0.size);have c16:=B2.cell (i:=16) rfl)
  |fail)
 go_ret
 exact⟨rfl,HB1⟩
theorem Gi (m:ac) (u l:Value) (w:World) (hf:ei w m u l) (h0:gB m≤3000) (h1:jD m.sld.r=true) (h2:¬m.sld.tag.size≤1000):
  Calls Tryz.prog 4 #[m.v u l] w fun e w'=>e= .returned (.bool false)∧Below w.heap.size w w':=by
 have HF:=Lib.hid hf;clear hf
 unfold gB at h0
 have H1:=Lib.hid h1;clear h1
 have h2':¬(m.sld.tag.size:Int)≤1000:=by omega
 go_enter Tryz.func4,Tryz.ntmps4
 go_wp2_with (first
  |((with_reducible refine ag 39 (.tmp 0) (m.cells u l) (some 1) ?hgd ?ho ?hd ?hx ?_);(case hgd|ho|hd|hx=>rfl);(intro b w0 l0 B e0 z0);have HB0:Below w.heap.size w w0:=e0.mono l0;have c3:=B.cell (i:=3) rfl;have c4:=B.cell (i:=4) rfl;have c5:=B.cell (i:=5) rfl)
  |((with_reducible refine ae 25 (.tmp 17) b 8 m.sld.r.cells _ (some 18) ((B.ext (m.recAt u l)).part (off:=8) rfl) Tryz.underlying25 rfl aI ?hg ?ho ?hds ?hx ?_);(case ho|hg|hds|hx=>rfl))
  |(go_at_call 11;refine(gv m.sld.r _).mono ?_;rintro e w1 ⟨he,hb1⟩;rw[H1.out]at he;subst he;have B2:=B.below hb1 B.lt;have HB1:=HB0.trans (hb1.mono HB0.size);have c16:=B2.cell (i:=16) rfl)
  |fail)
 go_ret
 exact⟨rfl,HB1⟩
theorem Gj (m:ac) (u l:Value) (w:World) (hf:ei w m u l) (h0:gB m≤3000) (h1:jD m.sld.r=true) (h2:m.sld.tag.size≤1000) (h3:iD m.rcp=false):
  Calls Tryz.prog 4 #[m.v u l] w fun e w'=>e= .returned (.bool false)∧Below w.heap.size w w':=by
 have HF:=Lib.hid hf;clear hf
 unfold gB at h0
 have H1:=Lib.hid h1;clear h1
 have h2':(m.sld.tag.size:Int)≤1000:=by omega
 have H3:=Lib.hid h3;clear h3
 go_enter Tryz.func4,Tryz.ntmps4
 go_wp2_with (first
  |((with_reducible refine ag 39 (.tmp 0) (m.cells u l) (some 1) ?hgd ?ho ?hd ?hx ?_);(case hgd|ho|hd|hx=>rfl);(intro b w0 l0 B e0 z0);have HB0:Below w.heap.size w w0:=e0.mono l0;have c3:=B.cell (i:=3) rfl;have c4:=B.cell (i:=4) rfl;have c5:=B.cell (i:=5) rfl)
  |((with_reducible refine ae 25 (.tmp 17) b 8 m.sld.r.cells _ (some 18) ((B.ext (m.recAt u l)).part (off:=8) rfl) Tryz.underlying25 rfl aI ?hg ?ho ?hds ?hx ?_);(case ho|hg|hds|hx=>rfl))
  |(go_at_call 11;refine(gv m.sld.r _).mono ?_;rintro e w1 ⟨he,hb1⟩;rw[H1.out]at he;subst he;have B2:=B.below hb1 B.lt;have HB1:=HB0.trans (hb1.mono HB0.size);have c16:=B2.cell (i:=16) rfl)
  |((with_reducible refine ae 37 (.tmp 29) b 30 m.rcp.cells _ (some 30) ((B2.ext (m.rcpAt u l)).part (off:=30) rfl) Tryz.underlying37 rfl bf ?hg ?ho ?hds ?hx ?_);(case ho|hg|hds|hx=>rfl))
  |(go_at_call 12;refine(mi m.rcp _).mono ?_;rintro e w2 ⟨he,hb2⟩;rw[H3.out]at he;subst he;have B3:=B2.below hb2 B2.lt;have HB2:=HB1.trans (hb2.mono HB1.size);have c29:=B3.cell (i:=29) rfl)
  |fail)
 go_ret
 exact⟨rfl,HB2⟩
theorem Gk (m:ac) (u l:Value) (w:World) (hf:ei w m u l) (h0:gB m≤3000) (h1:jD m.sld.r=true) (h2:m.sld.tag.size≤1000) (h3:iD m.rcp=true) (h4:¬m.told.cipher.size≤8000):
  Calls Tryz.prog 4 #[m.v u l] w fun e w'=>e= .returned (.bool false)∧Below w.heap.size w w':=by
 have HF:=Lib.hid hf;clear hf
 unfold gB at h0
 have H1:=Lib.hid h1;clear h1
 have h2':(m.sld.tag.size:Int)≤1000:=by omega
 have H3:=Lib.hid h3;clear h3
 have h4':¬(m.told.cipher.size:Int)≤8000:=by omega
 go_enter Tryz.func4,Tryz.ntmps4
 go_wp2_with (first
  |((with_reducible refine ag 39 (.tmp 0) (m.cells u l) (some 1) ?hgd ?ho ?hd ?hx ?_);(case hgd|ho|hd|hx=>rfl);(intro b w0 l0 B e0 z0);have HB0:Below w.heap.size w w0:=e0.mono l0;have c3:=B.cell (i:=3) rfl;have c4:=B.cell (i:=4) rfl;have c5:=B.cell (i:=5) rfl)
  |((with_reducible refine ae 25 (.tmp 17) b 8 m.sld.r.cells _ (some 18) ((B.ext (m.recAt u l)).part (off:=8) rfl) Tryz.underlying25 rfl aI ?hg ?ho ?hds ?hx ?_);(case ho|hg|hds|hx=>rfl))
  |(go_at_call 11;refine(gv m.sld.r _).mono ?_;rintro e w1 ⟨he,hb1⟩;rw[H1.out]at he;subst he;have B2:=B.below hb1 B.lt;have HB1:=HB0.trans (hb1.mono HB0.size);have c16:=B2.cell (i:=16) rfl)
  |((with_reducible refine ae 37 (.tmp 29) b 30 m.rcp.cells _ (some 30) ((B2.ext (m.rcpAt u l)).part (off:=30) rfl) Tryz.underlying37 rfl bf ?hg ?ho ?hds ?hx ?_);(case ho|hg|hds|hx=>rfl))
  |(go_at_call 12;refine(mi m.rcp _).mono ?_;rintro e w2 ⟨he,hb2⟩;rw[H3.out]at he;subst he;have B3:=B2.below hb2 B2.lt;have HB2:=HB1.trans (hb2.mono HB1.size);have c29:=B3.cell (i:=29) rfl)
  |fail)
 go_ret
 exact⟨rfl,HB2⟩
theorem Gl (m:ac) (u l:Value) (w:World) (hf:ei w m u l) (h0:gB m≤3000) (h1:jD m.sld.r=true) (h2:m.sld.tag.size≤1000) (h3:iD m.rcp=true) (h4:m.told.cipher.size≤8000) (q:Bool) (h5:nG m.told=q):
  Calls Tryz.prog 4 #[m.v u l] w fun e w'=>e= .returned (.bool q)∧Below w.heap.size w w':=by
 have HF:=Lib.hid hf;clear hf
 unfold gB at h0
 have H1:=Lib.hid h1;clear h1
 have h2':(m.sld.tag.size:Int)≤1000:=by omega
 have H3:=Lib.hid h3;clear h3
 have h4':(m.told.cipher.size:Int)≤8000:=by omega
 have H5:=Lib.hid h5;clear h5
 go_enter Tryz.func4,Tryz.ntmps4
 go_wp2_with (first
  |((with_reducible refine ag 39 (.tmp 0) (m.cells u l) (some 1) ?hgd ?ho ?hd ?hx ?_);(case hgd|ho|hd|hx=>rfl);(intro b w0 l0 B e0 z0);have HB0:Below w.heap.size w w0:=e0.mono l0;have c3:=B.cell (i:=3) rfl;have c4:=B.cell (i:=4) rfl;have c5:=B.cell (i:=5) rfl)
  |((with_reducible refine ae 25 (.tmp 17) b 8 m.sld.r.cells _ (some 18) ((B.ext (m.recAt u l)).part (off:=8) rfl) Tryz.underlying25 rfl aI ?hg ?ho ?hds ?hx ?_);(case ho|hg|hds|hx=>rfl))
  |(go_at_call 11;refine(gv m.sld.r _).mono ?_;rintro e w1 ⟨he,hb1⟩;rw[H1.out]at he;subst he;have B2:=B.below hb1 B.lt;have HB1:=HB0.trans (hb1.mono HB0.size);have c16:=B2.cell (i:=16) rfl)
  |((with_reducible refine ae 37 (.tmp 29) b 30 m.rcp.cells _ (some 30) ((B2.ext (m.rcpAt u l)).part (off:=30) rfl) Tryz.underlying37 rfl bf ?hg ?ho ?hds ?hx ?_);(case ho|hg|hds|hx=>rfl))
  |(go_at_call 12;refine(mi m.rcp _).mono ?_;rintro e w2 ⟨he,hb2⟩;rw[H3.out]at he;subst he;have B3:=B2.below hb2 B2.lt;have HB2:=HB1.trans (hb2.mono HB1.size);have c29:=B3.cell (i:=29) rfl)
  |((with_reducible refine ae 33 (.tmp 42) b 20 (m.told.pcells u l) _ (some 43) ((B3.ext (m.proofAt u l)).part (off:=20) rfl) Tryz.underlying33 rfl iO ?hg ?ho ?hds ?hx ?_);(case ho|hg|hds|hx=>rfl))
  |(go_at_call 13;refine(zT m.told u l _ (aN.below HF.out.up HB2 (Nat.le_refl _)) (aN.below HF.out.left HB2 (Nat.le_refl _)) HF.out.upl HF.out.leftl).mono ?_;rintro e w3 ⟨he,hb3⟩;rw[H5.out]at he;subst he;have HB3:=HB2.trans (hb3.mono HB2.size))
  |fail)
 go_ret
 exact⟨rfl,HB3⟩
theorem zV (m:ac) (u l:Value) (w:World) (hf:ei w m u l):
  Calls Tryz.prog 4 #[m.v u l] w fun e w'=>nH m e∧Below w.heap.size w w':=by
 by_cases h0:gB m≤3000
 rotate_left
 ·exact(Gg m u l w hf h0).mono fun e w' ⟨he,hb⟩=>⟨.no he,hb⟩
 cases h1:jD m.sld.r with
 |false=>exact(Gh m u l w hf h0 h1).mono fun e w' ⟨he,hb⟩=>⟨.no he,hb⟩
 |true=>
 by_cases h2:m.sld.tag.size≤1000
 rotate_left
 ·exact(Gi m u l w hf h0 h1 h2).mono fun e w' ⟨he,hb⟩=>⟨.no he,hb⟩
 cases h3:iD m.rcp with
 |false=>exact(Gj m u l w hf h0 h1 h2 h3).mono fun e w' ⟨he,hb⟩=>⟨.no he,hb⟩
 |true=>
 by_cases h4:m.told.cipher.size≤8000
 rotate_left
 ·exact(Gk m u l w hf h0 h1 h2 h3 h4).mono fun e w' ⟨he,hb⟩=>⟨.no he,hb⟩
 exact(Gl m u l w hf h0 h1 h2 h3 h4 _ rfl).mono fun e w' ⟨he,hb⟩=>⟨.any he fun h5=>⟨h1,h2,h3,h4,h5⟩,hb⟩
theorem zU.tame {m:ac} {w:World} {u l:Value} (h:zU m) (hf:ei w m u l):bZ m:=by
 have h1:=h.sld;have h3:=h.rcp;have h5:=h.proof
 simp only[jD,iD,nG,Bool.and_eq_true,decide_eq_true_eq]at h1 h3 h5
 exact⟨by omega,by omega,by omega,by omega,by omega,by omega,hf.sld.epoch,by omega,by omega,hf.rcp.r.epoch,hf.rcp.seq⟩
end Go.Proofs.YtgimkmclgjfddaaGreat
