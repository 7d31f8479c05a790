/- The four rounds of a session in which nothing was written (chapter 31). A world is made (chapter 31). Walk of Few of chapter 24 at one call. A world closes an epoch, and the chapter's example (chapter 31). The chapter's example (chapter 31). -/
import Derived.Test.YtngiibgdgenidaaGreatQ33
import Derived.Test.YtngiibgdgenidaaGreatQ30
import Derived.Test.YtngiibgdgenidaaGreatQ26
import Derived.Test.YtngiibgdgenidaaGreatQ11
import Derived.Test.YtngiibgdgenidaaGreatQ2
import Derived.Deep.DeepAppendWide
import Derived.Deep.RegionWith
import Derived.Deep.QuietTactic
import Derived.BigQuiet
set_option linter.unusedSimpArgs false
set_option linter.unusedVariables false
set_option maxRecDepth 100000
set_option maxHeartbeats 4000000
namespace Go.Proofs.YtngiibgdgenidaaGreat
open Go Go.RowKit
theorem round0 (s:bL) (R:ByteArray) (x:ax) (d:ay) (p:Option Addr) (w:World) (hv:pH s.i s.v R x) (h:bO w s d (.slice p 0 0)) (hd:ge R x 0 d):
  Calls Tryz.prog 14 #[.pointer (some ⟨s.wb,0,none⟩)] w fun e w'=>e= .returned (.int .i64 0)∧∃(d':ay) (p':Option Addr),ge R x (0+1) d'∧bA w w' s d d' (.slice p' 0 0):=by
 obtain⟨hb,bE,hl,hlv,hbk⟩:=hd
 have hR:=hb.root
 subst hR
 have hQA:∀A,iT A {aa.zero with kind:=2,epoch:=1,nonce:=d.nonce}→dW A:=fun A e=>by rw[e.eq];exact Iy hb.nonce
 refine jy s d (fun M=>iT M {aa.zero with kind:=1,nonce:=d.nonce}) (fun A=>iT A {aa.zero with kind:=2,epoch:=1,nonce:=d.nonce}) (ge d.root x 1) p w h (fun M e=>by rw[e.eq];exact E6 hb.nonce) hQA ?_ ?_ ?_
 ·intro wx hx
  refine(yi s.xb d wx hx bE).mono ?_
  rintro e w' ⟨rfl,hb'⟩
  exact⟨⟨_,rfl,⟨rfl⟩⟩,hb'⟩
 ·intro M p1 p2 c1 c2 wx hM hx
  have hs:dW M:=by rw[hM.eq];exact E6 hb.nonce
  refine vF s.i s.v M _ p1 p2 c1 c2 wx hx (by rw[hv.key.size,fU]) (by rw[hM.eq]) hs.1 hs.2.1 hs.2.2.1 (fun wy hy=> ?_)
  refine(zW s.i.vb s.v.epoch s.v.key M {aa.zero with kind:=2,epoch:=s.v.epoch,nonce:=M.nonce} ⟨rfl⟩ p1 p2 c1 c2 wy).mono ?_
  rintro e w' ⟨rfl,hb'⟩
  exact⟨⟨_,rfl,⟨by rw[hv.ep,hM.eq]⟩⟩,hb'⟩
 ·intro A p1 p2 c1 c2 wx hA hx
  have hs:=hQA A hA
  refine li 125 s.xb d A _ (.inl rfl) p1 p2 c1 c2 wx hx hs.1 hs.2.1 hs.2.2.1 (by rw[hA.eq]) (by rw[hA.eq];simp) (fun wy hy=>vz s.xb d A p1 p2 c1 c2 wy hy (by rw[hA.eq]) bE) (fun wy hy=> ?_)
  refine(Cb s.xb d A p1 p2 c1 c2 wy hy (by rw[hA.eq])).mono ?_
  rintro e w' ⟨rfl,ht⟩
  exact⟨rfl,_,ht,⟨⟨rfl,hb.nonce,hb.na,hb.verd,hb.all⟩,rfl,rfl,hl,hlv,hbk⟩⟩
theorem Hz (s:bL) (R:ByteArray) (x:ax) (d:ay) (p:Option Addr) (w:World) (hv:pH s.i s.v R x) (h:bO w s d (.slice p 0 0)) (hd:ge R x 1 d):
  Calls Tryz.prog 14 #[.pointer (some ⟨s.wb,0,none⟩)] w fun e w'=>e= .returned (.int .i64 0)∧∃(d':ay) (p':Option Addr),ge R x (1+1) d'∧bA w w' s d d' (.slice p' 0 0):=by
 obtain⟨hb,bE,hep,hl,hlv,hbk⟩:=hd
 have hR:=hb.root
 subst hR
 have hks:s.v.key.size=32:=by rw[hv.key.size,fU]
 have hkl:s.v.key.data.toList=iV d.root.data.toList 0 1:=hv.key
 have hxt:x.tag.size=32:=by rw[hv.tag.size,fg]
 have hQM:∀M,(∃t,iT M {aa.zero with kind:=3,epoch:=1,nonce:=d.nonce,tag:=t}∧ak t (jj (iV d.root.data.toList 0 1) M))→dW M:=fun M ⟨t,e,ht⟩=>by rw[e.eq];exact Iz hb.nonce (by rw[ht.size];exact dR _ _)
 have hQA:∀A,(∃t,iT A {aa.zero with kind:=4,epoch:=1,seq:=1,nonce:=d.nonce,last:=x.tag,tag:=t}∧ak t (jj (iV d.root.data.toList 0 1) A))→dW A:=fun A ⟨t,e,ht⟩=>by rw[e.eq];exact E7 hb.nonce (by rw[ht.size];exact dR _ _) hxt
 refine jy s d (fun M=>∃t,iT M {aa.zero with kind:=3,epoch:=1,nonce:=d.nonce,tag:=t}∧ak t (jj (iV d.root.data.toList 0 1) M)) (fun A=>∃t,iT A {aa.zero with kind:=4,epoch:=1,seq:=1,nonce:=d.nonce,last:=x.tag,tag:=t}∧ak t (jj (iV d.root.data.toList 0 1) A)) (ge d.root x 2) p w h hQM hQA ?_ ?_ ?_
 ·intro wx hx
  refine(yj s.xb d 1 wx hx bE hv.size (by decide) (by rw[hep];rfl) hb.nonce (by rw[hep,IH hb.nonce hb.nonce];rfl)).mono ?_
  rintro e w' ⟨⟨t,rfl,ht⟩,hb'⟩
  exact⟨⟨_,rfl,t,⟨by rw[hep]⟩,ht⟩,hb'⟩
 ·intro M p1 p2 c1 c2 wx hM hx
  have hs:=hQM M hM
  obtain⟨t,hM,htg⟩:=hM
  refine vG s.i s.v M _ p1 p2 c1 c2 wx hx hks (by rw[hM.eq]) hs.1 hs.2.1 hs.2.2.1 (fun wy hy=> ?_)
  have hAe:({aa.zero with kind:=4,epoch:=s.v.epoch,seq:=(s.v.sealed.length:Int),nonce:=M.nonce,last:=cT s.v.sealed,tag:=M.tag}:aa)={aa.zero with kind:=4,epoch:=1,seq:=1,nonce:=d.nonce,last:=x.tag,tag:=t}:=by rw[hM.eq,hv.ep,hv.sealed];rfl
  have htt:t.size=32:=by rw[show t=M.tag by rw[hM.eq]];rw[hM.eq]at htg ⊢;rw[htg.size];exact dR _ _
  have hsA:=E7 hb.nonce htt hxt
  refine(vr s.i s.v s.v.epoch s.v.key M _ ⟨hAe.symm⟩ p1 p2 c1 c2 wy hy (by rw[hv.sealed];exact(show(1:Nat)≤4096 by decide)) (by rw[hM.eq,hv.ep]) hs.2.1 hs.2.2.1 hks (by rw[hs.1,hM.eq];rfl) (by rw[hkl];rw[hM.eq]at htg ⊢;exact htg) hsA.2.1 (by rw[hsA.1];rfl) hsA.2.2.1).mono ?_
  rintro e w' ⟨⟨t',rfl,ht'⟩,hb'⟩
  rw[hkl]at ht'
  exact⟨⟨_,rfl,t',⟨rfl⟩,ht'⟩,hb'⟩
 ·intro A p1 p2 c1 c2 wx hA hx
  have hs:=hQA A hA
  obtain⟨t,hA,htg⟩:=hA
  refine li 126 s.xb d A _ (.inr (.inl rfl)) p1 p2 c1 c2 wx hx hs.1 hs.2.1 hs.2.2.1 (by rw[hA.eq]) (by rw[hA.eq];simp) (fun wy hy=>vB s.xb d A p1 p2 c1 c2 wy hy (by rw[hA.eq]) bE (by rw[hA.eq,hep])) (fun wy hy=> ?_)
  refine(qu s.xb d A p1 p2 c1 c2 wy hy hv.size (by rw[hA.eq]) hs.2.1 hs.2.2.1 (by rw[hA.eq];exact(by rw[II hb.nonce hb.nonce hxt];rfl)) (by rw[hA.eq]at htg ⊢;exact htg) hb.na (by rw[hA.eq]) hl hbk).mono ?_
  rintro e w' ⟨rfl,k,ht,hne⟩
  exact⟨rfl,_,ht,⟨⟨rfl,hb.nonce,hb.na,hb.verd,hb.all⟩,rfl,by rw[hA.eq],by rw[hA.eq],by rw[hA.eq],hl,hlv,rfl,rfl,k,rfl,hne⟩⟩
theorem HY (s:bL) (R:ByteArray) (x:ax) (d:ay) (p:Option Addr) (w:World) (hv:pH s.i s.v R x) (h:bO w s d (.slice p 0 0)) (hd:ge R x 2 d):
  Calls Tryz.prog 14 #[.pointer (some ⟨s.wb,0,none⟩)] w fun e w'=>e= .returned (.int .i64 0)∧∃(d':ay) (p':Option Addr),ge R x (2+1) d'∧bA w w' s d d' (.slice p' 0 0):=by
 obtain⟨hb,bE,hhe,hhs,hhl,hl,hlv,hbe,hbn,k,hbk,hne⟩:=hd
 have hR:=hb.root
 subst hR
 have hks:s.v.key.size=32:=by rw[hv.key.size,fU]
 have hxt:x.tag.size=32:=by rw[hv.tag.size,fg]
 have hxr:x.r.root.size=32:=by rw[hv.root.size];exact cJ _
 have hfe:Fits x.r.epoch:=by rw[hv.repoch];exact lj
 have hQA:∀A,iT A {aa.zero with kind:=6,nonce:=d.nonce,sld:=x}→dW A:=fun A e=>by rw[e.eq];exact IA hb.nonce hv.ok hxt (by omega) hv.name hfe
 refine jy s d (fun M=>iT M {aa.zero with kind:=5,nonce:=d.nonce}) (fun A=>iT A {aa.zero with kind:=6,nonce:=d.nonce,sld:=x}) (ge d.root x 3) p w h (fun M e=>by rw[e.eq];exact E8 hb.nonce) hQA ?_ ?_ ?_
 ·intro wx hx
  refine(yl s.xb d wx hx bE (by rw[hl];decide)).mono ?_
  rintro e w' ⟨rfl,hb'⟩
  exact⟨⟨_,rfl,⟨by rw[hl];rfl⟩⟩,hb'⟩
 ·intro M p1 p2 c1 c2 wx hM hx
  have hs:dW M:=by rw[hM.eq];exact E8 hb.nonce
  refine vH s.i s.v M _ p1 p2 c1 c2 wx hx hks (by rw[hM.eq]) hs.1 hs.2.1 hs.2.2.1 (fun wy hy=> ?_)
  refine(xG s.i s.v s.v.epoch s.v.key 0 x M {aa.zero with kind:=6,nonce:=M.nonce,seq:=((0:Nat):Int),sld:=x} ⟨rfl⟩ p1 p2 c1 c2 wy hy (by rw[hv.sealed];exact(show(1:Nat)≤4096 by decide)) (by rw[hv.sealed];rfl) (by rw[hM.eq];rfl)).mono ?_
  rintro e w' ⟨rfl,hb'⟩
  exact⟨⟨_,rfl,⟨by rw[hM.eq];rfl⟩⟩,hb'⟩
 ·intro A p1 p2 c1 c2 wx hA hx
  have hs:=hQA A hA
  refine li 127 s.xb d A _ (.inr (.inr (.inl rfl))) p1 p2 c1 c2 wx hx hs.1 hs.2.1 hs.2.2.1 (by rw[hA.eq]) (by rw[hA.eq];simp) (fun wy hy=>vC s.xb d A p1 p2 c1 c2 wy hy (by rw[hA.eq]) bE (by rw[hA.eq,hl];rfl)) (fun wy hy=> ?_)
  refine(tA s.xb d A x k p1 p2 c1 c2 wy hy hv.size hbk hne hl hlv (by rw[hA.eq]) hv.kind hv.repoch hv.ok hbe hbn hv.time hv.tag hhe hhs hhl ⟨by omega,hv.name,hfe⟩).mono ?_
  rintro e w' ⟨rfl,v',ht⟩
  exact⟨rfl,_,ht,⟨⟨rfl,hb.nonce,hb.na,hb.verd,hb.all⟩,rfl,rfl,k,hbk⟩⟩
theorem Ia (s:bL) (R:ByteArray) (x:ax) (d:ay) (p:Option Addr) (w:World) (hv:pH s.i s.v R x) (h:bO w s d (.slice p 0 0)) (hd:ge R x 3 d):
  Calls Tryz.prog 14 #[.pointer (some ⟨s.wb,0,none⟩)] w fun e w'=>e= .returned (.int .i64 0)∧∃(d':ay) (p':Option Addr),ge R x (3+1) d'∧bA w w' s d d' (.slice p' 0 0):=by
 obtain⟨hb,bE,hl,k,hbk⟩:=hd
 have hR:=hb.root
 subst hR
 have hks:s.v.key.size=32:=by rw[hv.key.size,fU]
 have hQA:∀A,iT A {aa.zero with kind:=8,nonce:=d.nonce}→dW A:=fun A e=>by rw[e.eq];exact IB hb.nonce
 refine jy s d (fun M=>iT M {aa.zero with kind:=7,nonce:=d.nonce}) (fun A=>iT A {aa.zero with kind:=8,nonce:=d.nonce}) (ge d.root x 4) p w h (fun M e=>by rw[e.eq];exact E9 hb.nonce) hQA ?_ ?_ ?_
 ·intro wx hx
  refine(ym s.xb d none 0 wx hx bE hb.na hb.verd).mono ?_
  rintro e w' ⟨rfl,hb'⟩
  exact⟨⟨_,rfl,⟨rfl⟩⟩,hb'⟩
 ·intro M p1 p2 c1 c2 wx hM hx
  have hs:dW M:=by rw[hM.eq];exact E9 hb.nonce
  refine vI s.i s.v M _ p1 p2 c1 c2 wx hx hks (by rw[hM.eq]) hs.1 hs.2.1 hs.2.2.1 (fun wy hy=> ?_)
  refine(tj s.i s.v s.v.epoch s.v.key M {aa.zero with kind:=8,nonce:=M.nonce} ⟨rfl⟩ none 0 p1 p2 c1 c2 wy hy hv.xv hv.vers hv.first hv.lbas (by rw[hv.ep];decide) hv.gone (by rw[hM.eq];rfl) (by rw[hM.eq];rfl)).mono ?_
  rintro e w' ⟨rfl,hb'⟩
  exact⟨⟨_,rfl,⟨by rw[hM.eq]⟩⟩,hb'⟩
 ·intro A p1 p2 c1 c2 wx hA hx
  have hs:=hQA A hA
  refine li 128 s.xb d A _ (.inr (.inr (.inr rfl))) p1 p2 c1 c2 wx hx hs.1 hs.2.1 hs.2.2.1 (by rw[hA.eq]) (by rw[hA.eq];simp) (fun wy hy=>vD s.xb d A p1 p2 c1 c2 wy hy (by rw[hA.eq]) bE hb.na none 0 hb.verd (by rw[hA.eq];rfl) (by rw[hA.eq];rfl)) (fun wy hy=> ?_)
  refine(xX s.xb d A x k p1 p2 c1 c2 wy hy hs.2.2.1 hbk hb.all hb.na hb.verd hl hv.kind hv.repoch hv.count hv.root).mono ?_
  rintro e w' ⟨rfl,v',a',ht⟩
  exact⟨rfl,_,ht,⟨rfl,rfl⟩⟩
theorem Ao (s:bL) (R:ByteArray) (x:ax) (d:ay) (p:Option Addr) (w:World) (hv:pH s.i s.v R x) (h:bO w s d (.slice p 0 0)) (hd:ge R x 0 d):
  Calls Tryz.prog 6 #[.pointer (some ⟨s.wb,0,none⟩), .int .i64 9] w fun e w'=>e= .returned (.tuple #[.int .i64 4, .int .i64 0])∧∃(d':ay) (p':Option Addr),ge R x 4 d'∧bA w w' s d d' (.slice p' 0 0):=by
 refine CX s d (ge R x) p w h hd (fun k y hk hy=>hy.state k y hk) (fun k y q wx hk hy hw=> ?_)
 match k,hk with
 |0,_=>exact round0 s R x y q wx hv hw hy
 |1,_=>exact Hz s R x y q wx hv hw hy
 |2,_=>exact HY s R x y q wx hv hw hy
 |3,_=>exact Ia s R x y q wx hv hw hy
open Go.Maps Go.WideMaps
section
variable {P:Program} {o:Oper} {a:Act} {w:World} {K:Act→World→Prop} {Q:Exit→Act→World→Prop}
theorem Ap (ty:TypeId) {x:Operand} (z:List Value) (ho:o.op= .box ty x) (hx:a.eval x= .agg z.toArray)
  (h:∀n w',w.heap.size≤n→ac w' n z ty→Below n w w'→n<w'.heap.size→K (a.put o.dst (.pointer (some ⟨n,0,none⟩))) w'):o.wp P a w K Q:=by
 unfold Oper.wp execOp
 simp only[ho,hx,Instr.box,Sem.run_bind,Result.andThen_ok,newVar,newRow,Value.cells,run_newObj,Sem.run_pure]
 exact h _ _ (Nat.le_refl _) (ac.new w z ty) ((Below.refl _ _).alloc (Nat.le_refl _) _) (by simp)
end
def oc (i:aR) (v:bf) (R:ByteArray):Prop:=∃(vb jb sb db xi bb cb cc m1 m2 m3:Nat) (key data kb q:ByteArray) (vv:Value),i=(iy vb jb sb db xi bb cb cc m1 m2 m3 none)∧v=(gQ key data 1 0 12 2 0 0 (bC 12 vv 2 kb q))∧ak key (dw R.data.toList [115,101,97,108] [0])
theorem C9 (R:ByteArray) (w:World) (hR:R.size=32):
  Calls Tryz.prog 15 #[(⟨12,2,0⟩:aK).v, .string R] w fun e w'=>(∃(s:bL) (cb m1 m2:Nat),e= .returned (.tuple #[.pointer (some ⟨s.wb,0,none⟩), .int .i64 0])∧oc s.i s.v R∧bO w' s (dG R cb m1 m2) (.slice none 0 0)∧(∀x,x∈s.i.foot s.v.d→x≠m2)∧(∀x,x∈s.foot→w.heap.size≤x)∧w.heap.size≤s.xb)∧Below w.heap.size w w':=by
 have HR:=Lib.hid hR
 clear hR
 go_enter Tryz.func15,Tryz.ntmps15
 go_upto_region 1 with(first
  |((with_reducible refine ai 31 (.tmp 0) (aK.cells (⟨12,2,0⟩:aK)) (some 2) ?hgd ?ho ?hd ?hx ?_);(case hgd|ho|hd|hx=>rfl);(intro b2 w1 l1 B1 e1 z1))
  |fail)
 have HX1:=Lib.hid B1
 have HB1:=Lib.hid (e1.mono l1)
 clear B1 e1 z1 l1
 have x0:w1.cell? ⟨b2,0,none⟩=some (.int .i64 12):=HX1.out.cell (i:=0) rfl
 go_wp2_with fail
 refine(show Calls Tryz.prog 34 #[.int .i64 12] w1 _ from AL 12 w1 (by decide) (by decide)).mono ?_
 rintro e w2 ⟨⟨db,vv,rfl,hd,hdf⟩,hb2⟩
 have HX2:=Lib.hid (HX1.out.below hb2 HX1.out.lt)
 have HB2:=Lib.hid (HB1.out.trans (hb2.mono HB1.out.size))
 have HD:=Lib.hid hd
 have HDF:=Lib.hid hdf
 have HS12:=Lib.hid hb2.size
 clear hd hdf hb2 x0
 go_wp2_with (first
  |((with_reducible refine ag 31 (.tmp 2) b2 0 ((aK.cells (⟨12,2,0⟩:aK))) _ (some 24) (HX2.out.range) Tryz.underlying31 rfl bP ?hg ?ho ?hds ?hx ?_);(case ho|hg|hds|hx=>rfl))
  |fail)
 refine(show Calls Tryz.prog 35 #[.pointer (some ⟨db,0,none⟩),(⟨12,2,0⟩:aK).v, .string R] w2 _ from vj db 12 0 2 vv R w2 ⟨by decide,by decide,by decide,by decide,by decide,by decide⟩ HR.out HD.out).mono ?_
 rintro e w6 ⟨vb,jb,sb,xi,bb,cb,cc,m1,m2,m3,key,data,kb,q,rfl,td,tk,tkb,tq,hdt,hv⟩
 have HFO:=Lib.hid (show ∀x,x∈(iy vb jb sb db xi bb cb cc m1 m2 m3 none).foot (gQ key data 1 0 12 2 0 0 (bC 12 vv 2 kb q)).d→w1.heap.size≤x from hv.foot_ge HS12.out (fun x hx=>(hdt.foot x hx).elim (HDF.out x) (fun h=>Nat.le_trans HS12.out h)))
 have HK:=Lib.hid tk
 have HV6:=Lib.hid hv.at
 have HX6:=Lib.hid (hdt.turned.blk HX2.out (fun hm=>by have h1:=HDF.out b2 hm;have h2:=HX1.out.lt;omega))
 have HB6:=Lib.hid (hdt.turned.below HB2.out (fun x hx=>Nat.le_trans HB1.out.size (HDF.out x hx)) HB2.out.size)
 clear td tk tkb tq hdt hv
 have x2:w6.cell? ⟨b2,2,none⟩=some (.int .i64 0):=HX6.out.cell (i:=2) rfl
 go_wp2_with fail
 refine(zS R _ HR.out).mono ?_
 rintro e w7 ⟨⟨xb,vc,v1,v2,rfl,hx,hxl,hml⟩,hb7⟩
 have HX7:=Lib.hid (HX6.out.below hb7 HX6.out.lt)
 have HB7:=Lib.hid (HB6.out.trans (hb7.mono HB6.out.size))
 have HV7:=Lib.hid (HV6.out.below hb7)
 have HY7:=Lib.hid hx
 have HXV:=Lib.hid (show ∀x,x∈(iy vb jb sb db xi bb cb cc m1 m2 m3 none).foot (gQ key data 1 0 12 2 0 0 (bC 12 vv 2 kb q)).d→x≠xb from fun x hx e=>by have:=HV6.out.foot_lt x hx;omega)
 have HML:=Lib.hid (show ∀x,x∈(iy vb jb sb db xi bb cb cc m1 m2 m3 none).foot (gQ key data 1 0 12 2 0 0 (bC 12 vv 2 kb q)).d→x≠v2 from fun x hx e=>by have:=HV6.out.foot_lt x hx;omega)
 have HXL:=Lib.hid (Nat.le_trans HB6.out.size hxl)
 clear hx hxl hml hb7 x2
 go_wp2_with fail
 refine(gR _ _ _ _ _ _ _ _ _ _ _ _ _ _ _ w7 HV7.out.vol HV7.out.book).mono ?_
 rintro e w8 ⟨rfl,hw8⟩
 have hb8:Below w7.heap.size w7 w8:=by rw[hw8];exact(Below.refl _ _).drew
 have HX8:=Lib.hid (HX7.out.below hb8 HX7.out.lt)
 have HB8:=Lib.hid (HB7.out.trans (hb8.mono HB7.out.size))
 have HV8:=Lib.hid (HV7.out.below hb8)
 have HY8:=Lib.hid (HY7.out.below hb8)
 clear hw8 hb8
 go_upto_region 11 with fail
 refine hb (fun w'=>w'.rangeAt b2 0 (aK.cells (⟨12,2,0⟩:aK))) (HX8.out.drew.range) fun hHeld=> ?_
 obtain⟨w9,hw9⟩:∃x,x=w8.drew:=⟨_,rfl⟩
 have hb9:Below w8.heap.size w8 w9:=by rw[hw9];exact(Below.refl _ _).drew
 have HX9:=Lib.hid (HX8.out.below hb9 HX8.out.lt)
 have HB9:=Lib.hid (HB8.out.trans (hb9.mono HB8.out.size))
 have HV9:=Lib.hid (HV8.out.below hb9)
 have HY9:=Lib.hid (HY8.out.below hb9)
 rw[←hw9]
 rw[←hw9]at hHeld
 clear hw9 hb9
 refine hl 1 31 b2 0 (aK.cells (⟨12,2,0⟩:aK)) (fun w h=>h) Tryz.underlying31 bP ?_
 refine hp 2 ?_
 refine hp 3 ?_
 refine hp 4 ?_
 refine hp 5 ?_
 refine hc 0 fun K hK=> ?_
 go_simp
 refine(yw _).mono ?_
 rintro e w10 ⟨⟨nb,rfl,hn,hnl⟩,hb10⟩
 have HX10:=Lib.hid (HX9.out.below hb10 HX9.out.lt)
 have HB10:=Lib.hid (HB9.out.trans (hb10.mono HB9.out.size))
 have HV10:=Lib.hid (HV9.out.below hb10)
 have HY10:=Lib.hid (HY9.out.below hb10)
 have HN10:=Lib.hid hn
 have HNL:=Lib.hid hnl
 have HS910:=Lib.hid hb10.size
 clear hn hnl hb10
 (try go_wp2_with fail)
 refine hK.out _ _ (HX10.out.range) fun _=> ?_
 clear hK K hHeld
 rename_i hHeld
 (try go_frame)
 refine hu 6 36 [.pointer (some ⟨nb,0,none⟩), .int .i64 12, .int .i64 2, .int .i64 0, .pointer (some ⟨db,0,none⟩), .pointer (some ⟨vb,0,none⟩), .string data, .pointer (some ⟨xb,0,none⟩)] (by kernel_rfl) ?_
 refine hc 7 fun K hK=> ?_
 refine Ap 36 [.pointer (some ⟨nb,0,none⟩), .int .i64 12, .int .i64 2, .int .i64 0, .pointer (some ⟨db,0,none⟩), .pointer (some ⟨vb,0,none⟩), .string data, .pointer (some ⟨xb,0,none⟩)] rfl rfl ?_
 intro wb w11 l11 B11 e11 z11
 have hb11:=e11.mono l11
 have HX11:=Lib.hid (HX10.out.below hb11 HX10.out.lt)
 have HB11:=Lib.hid (HB10.out.trans (hb11.mono HB10.out.size))
 have HV11:=Lib.hid (HV10.out.below hb11)
 have HY11:=Lib.hid (HY10.out.below hb11)
 have HN11:=Lib.hid (show dT w11 nb _ from HN10.out.below hb11 HN10.out.lt)
 have HL11:=Lib.hid l11
 have HW11:=Lib.hid B11
 clear l11 B11 e11 z11 hb11
 refine hK.out _ _ (HX11.out.range) fun _=> ?_
 clear hK K hHeld
 rename_i hHeld
 (try go_frame)
 refine hp 8 ?_
 refine hp 9 ?_
 refine hd ?_
 clear hHeld
 go_wp2_with fail
 go_ret2
 refine⟨⟨⟨wb,nb,db,xb,(⟨12,2,0⟩:aK),data,(iy vb jb sb db xi bb cb cc m1 m2 m3 none),(gQ key data 1 0 12 2 0 0 (bC 12 vv 2 kb q))⟩,vc,v1,v2,rfl,⟨vb,jb,sb,db,xi,bb,cb,cc,m1,m2,m3,key,data,kb,q,vv,rfl,rfl,HK.out⟩,⟨HW11.out,HN11.out,HV11.out,HY11.out, ?_⟩,HML.out, ?_,HXL.out⟩,HB11.out⟩
 case refine_2=>
  intro x hx
  simp only[bL.foot,List.mem_cons]at hx
  have h1:=HB1.out.size
  have h9:=HB9.out.size
  have hnl:=HNL.out
  have h11:=HL11.out
  have h10:=HS910.out
  rcases hx with e|e|hx
  ·omega
  ·omega
  ·have:=HFO.out x hx;omega
 intro x hx hm
 have hm':x=xb:=by simpa[ay.foot,dG,lO,Value.ownBlock]using hm
 subst hm'
 have hl:=HY9.out.blk.lt
 have hnl:=HNL.out
 have h11:=HL11.out
 have h10:=HS910.out
 simp only[bL.foot,List.mem_cons]at hx
 rcases hx with e|e|hx
 ·omega
 ·omega
 ·exact HXV.out x hx rfl
theorem Ez:(Tryz.prog.info? 24).map (fun i=>(i.zero,i.size,i.bytes))=some (some (.agg #[.int .i64 0, .int .i64 0, .int .i64 0, .int .i64 0, .string ByteArray.empty, .string ByteArray.empty, .slice none 0 0]),7,88):=by kernel_rfl
theorem mG {c:fS}:(Tryz.prog.info? 24).map (·.size)=some c.cells.length:=by kernel_rfl
theorem fS.one (c:fS):∀v∈c.cells,v.oneCell'=true:=by
 intro v hv
 simp only[fS.cells,List.mem_cons,List.mem_nil_iff,or_false]at hv
 rcases hv with rfl|rfl|rfl|rfl|rfl|rfl|rfl<;>rfl
def EA (e:Ending):Prop:=∃q:Bool,e= .returned (.bool q)
theorem Da (g cap:Nat) (c:fS) (w:World) (h:w.rangeAt g 0 c.cells) (hc:1≤cap) (hk:c.kn≤9223372036854775807):
  Calls Tryz.prog 4 #[.slice (some ⟨g,0,none⟩) 1 cap] w fun e w'=>EA e∧Below w.heap.size w w':=by
 have c4:w.cell? ⟨g,4,none⟩=some (.string c.data):=by have:=h 4 _ rfl;simpa using this
 have c5:w.cell? ⟨g,5,none⟩=some (.string c.name):=by have:=h 5 _ rfl;simpa using this
 have c6:w.cell? ⟨g,6,none⟩=some (.slice c.kp c.kn c.kc):=by have:=h 6 _ rfl;simpa using this
 have HC:=Lib.hid (And.intro c4 (And.intro c5 c6))
 clear c4 c5 c6 h
 obtain⟨a,ha⟩:∃a:Nat,a=min c.data.size 10000:=⟨_,rfl⟩
 obtain⟨b,hb⟩:∃b:Nat,b=min c.name.size 10000:=⟨_,rfl⟩
 obtain⟨d,hd⟩:∃d:Nat,d=min c.kn 10000:=⟨_,rfl⟩
 have ha1:a≤10000:=by omega
 have hb1:b≤10000:=by omega
 have hd1:d≤10000:=by omega
 have e1:min (c.data.size:Int) 10000=(a:Int):=by omega
 have e2:min (c.name.size:Int) 10000=(b:Int):=by omega
 have e3:min (c.kn:Int) 10000=(d:Int):=by omega
 have HE:=Lib.hid (And.intro e1 (And.intro e2 e3))
 clear ha hb hd e1 e2 e3
 go_enter Tryz.func4,Tryz.ntmps4
 go_wp2_with fail
 go_loopw [3,4] (fun vn vi wr=>∃k m:Nat,k≤1∧vi= .int .i64 k∧vn= .int .i64 m∧m≤30000*k∧Below w.heap.size w wr) (fun _ vi _=>1-(intOf vi).toNat)
 case atStart=>exact⟨0,0,by omega,rfl,rfl,by omega,Below.refl _ _⟩
 case round=>
  obtain⟨k,m,hk1,rfl,rfl,hm,hbel⟩:=hrel
  have HB:=Lib.hid hbel
  clear hbel
  by_cases hk0:k=0
  ·subst hk0
   obtain rfl:m=0:=by omega
   have hgl:g<w.heap.size:=by
    by_cases hg:g<w.heap.size
    ·exact hg
    ·have h1:w.heap[g]?=none:=Array.getElem?_eq_none (by omega)
     have h2:=HC.out.1
     simp[World.cell?,h1]at h2
   have d4:wr.cell? ⟨g,4,none⟩=some (.string c.data):=by rw[HB.out.cell (by show g<w.heap.size;exact hgl)];exact HC.out.1
   have d5:wr.cell? ⟨g,5,none⟩=some (.string c.name):=by rw[HB.out.cell (by show g<w.heap.size;exact hgl)];exact HC.out.2.1
   have d6:wr.cell? ⟨g,6,none⟩=some (.slice c.kp c.kn c.kc):=by rw[HB.out.cell (by show g<w.heap.size;exact hgl)];exact HC.out.2.2
   have e1:=HE.out.1
   have e2:=HE.out.2.1
   have e3:=HE.out.2.2
   go_wp2_with fail
   go_quiet (fail)
   go_wp2_with fail
   go_roundw
   case rel=>exact⟨1,a+b+d,by omega,by go_num,by go_num,by omega,Below.drewN HB.out _⟩
   case measure=>simp[intOf]
  ·obtain rfl:k=1:=by omega
   by_cases hm2:m≤12000
   ·have hm3:(m:Int)≤12000:=by omega
    go_wp2_with fail
    go_ret
    exact⟨⟨_,rfl⟩,HB.out⟩
   ·have hm3:¬(m:Int)≤12000:=by omega
    go_wp2_with fail
    go_ret
    exact⟨⟨_,rfl⟩,HB.out⟩
def mH:fS:=⟨5,0,0,0,⟨#[]⟩,⟨#[]⟩,none,0,0⟩
theorem Aq:Tryz.prog.built 24 [(0, .int .i64 5)]=some mH.cells.toArray:=by kernel_rfl
theorem Ib (n:Nat) (v:Value) (i:Nat) (kb q:ByteArray):Calm (bC n v i kb q) n 0:=
 ⟨rfl,rfl,by show(((List.replicate n cn).set i kb).set 1 q).length=n;simp,fun j p hj=>by simp[bC]at hj,Nat.le_refl _⟩
theorem made_close {i:aR} {v:bf} {R:ByteArray} (h:oc i v R):lS v∧i.rv= .pointer none∧zy i v 0 (de []):=by
 obtain⟨vb,jb,sb,db,xi,bb,cb,cc,m1,m2,m3,key,data,kb,q,vv,rfl,rfl,hk⟩:=h
 have hks:key.size=32:=by rw[hk.size,fE]
 have ok:jt (gQ key data 1 0 12 2 0 0 (bC 12 vv 2 kb q)):=by
  refine⟨⟨⟨?_, ?_, ?_, ?_, ?_, ?_⟩, ?_, ?_, ?_, ?_, ?_, ?_, ?_, ?_⟩, ?_, ?_,Ib 12 vv 2 kb q⟩<;>simp[gQ]
 refine⟨?_,rfl,Cc _ _ (Int.le_refl 0) (by simp[gQ]) rfl (Nat.zero_le _)⟩
 refine⟨ok,hks, ?_, ?_, ?_, ?_,(show kh []from fun j x hx=>by simp at hx),rfl, ?_, ?_, ?_, ?_, ?_, ?_⟩<;>simp[gQ]
theorem yn {i:aR} {v:bf} {R s t bl nk kb q nb:ByteArray} {sv:Value} (h:oc i v R) (hR:R.size=32) (ts:ak s (de [])) (tt:ak t (lw v.key.data.toList (cT v.sealed).data.toList (v.sealed.length:Int) (aY v 0 s))) (tn:ak nk (dw v.key.data.toList [110,101,120,116] [])):
  pH {i with sv:=sv} (yS v 0 s t bl nk kb q nb) R ⟨aY v 0 s,t⟩:=by
 have hc:=(made_close h).1
 obtain⟨vb,jb,sb,db,xi,bb,cb,cc,m1,m2,m3,key,data,kb',q',vv,rfl,rfl,hk⟩:=h
 have hk':key.data.toList=dw R.data.toList [115,101,97,108] [0]:=hk
 refine⟨hR, ?_,rfl,rfl,rfl,rfl,rfl,Int.le_refl 0,ts,(show(0:Nat)≤1048576 by decide),jG hc (by decide) (by decide) (by rw[ts.size];exact cJ _), ?_,rfl,rfl,Int.le_refl 0,(show(0:Int)<2 by decide),rfl⟩
 ·show ak nk (dw (dw R.data.toList [115,101,97,108] [0]) [110,101,120,116] [])
  rw[←hk']
  exact tn
 ·show ak t (lw (dw R.data.toList [115,101,97,108] [0]) _ 0 _)
  rw[←hk']
  exact tt
section
variable {P:Program} {ops:Array Oper} {rest:List Oper} {o:Oper} {a:Act} {w:World} {Q:Exit→Act→World→Prop}
theorem nD (hg:Region.wanted o (yielded ops a.tmps)=true) (h:∀K:Act→World→Prop,(∀a w,wpList P ops Q rest a w→K a w)→o.wp P a w K Q):wpList P ops Q (o::rest) a w:=
 wpList_step fun K hK=>by simp only[hg,if_true];exact h K hK
theorem nE (t e:TypeId) (len:Nat) (parts:Array (Nat×Operand)) (cells:List Value) (z:Value) (sz byt:Nat) (d:Option Tmp)
  (hu:P.underlying t=some (.slice e)) (hi:(P.info? e).map (fun i=>(i.zero,i.size,i.bytes))=some (some z,sz,byt)) (hsm:len*sz≤16777216) (hpos:0<len*sz)
  (hg:Region.wanted o (yielded ops a.tmps)=true) (ho:o.op= .buildSlice t len parts) (hd:o.dst=d)
  (hf:Instr.fill (fun i=>some (i*sz,sz)) ((Array.range (len*sz)).map (z.cells[· % z.cells.size]!)) (parts.map fun(i,x)=>(i,a.eval x)).toList=some cells.toArray)
  (h:∀g w',w.heap.size≤g→ac w' g cells e→Below g w w'→g<w'.heap.size→wpList P ops Q rest (a.put d (.slice (some ⟨g,0,none⟩) len len)) w'):wpList P ops Q (o::rest) a w:=by
 subst hd
 cases hie:P.info? e with
 |none=>simp[hie]at hi
 |some ie=>
  simp only[hie,Option.map_some,Option.some.injEq,Prod.mk.injEq]at hi
  obtain⟨h1,h2,_⟩:=hi
  subst h2
  exact nD hg fun _ hK=>wp_buildSlice t e len parts ho cells.toArray ie z hu hie h1 (by omega) (by omega) hf (hK _ _ (h _ _ (Nat.le_refl _) (ac.new w cells e) ((Below.refl _ _).alloc (Nat.le_refl _) _) (by simp)))
theorem nF (t:TypeId) (parts:Array (Nat×Operand)) (cells:List Value) (hg:Region.wanted o (yielded ops a.tmps)=true) (ho:o.op= .build t parts)
  (hf:P.built t (parts.map fun(i,x)=>(i,a.eval x)).toList=some cells.toArray)
  (h:wpList P ops Q rest (a.put o.dst (.agg cells.toArray)) w):wpList P ops Q (o::rest) a w:=
 nD hg fun K hK=>wp_build t parts ho (by rw[hf];rfl) (by rw[hf];exact hK _ _ h)
end
theorem bO.vto {w w':World} {s:bL} {R:ByteArray} {cb m1 m2:Nat} {nv sv:Value} {v':bf} (h:bO w s (dG R cb m1 m2) nv) (t:cE w w' s.i s.v {s.i with sv:=sv} v') (hm:∀x,x∈s.i.foot s.v.d→x≠m2):bO w' {s with i:={s.i with sv:=sv},v:=v'} (dG R cb m1 m2) nv:=by
 refine⟨t.turned.blk h.blk (h.vol.notype h.blk.ty (by decide)),t.turned.blk h.net (h.vol.notype h.net.ty (by decide)),t.at',⟨t.turned.blk h.ver.blk (h.vol.notype h.ver.blk.ty (by decide)),dU h.ver.map t.turned (fun hx=>hm _ hx rfl),World.ownsRow_nil _ _ _ _,World.ownsRow_nil _ _ _ _,fun k hk=>by cases hk⟩, ?_⟩
 intro x hx hxm
 have hlt:=h.ver.foot_lt x hxm
 simp only[bL.foot,List.mem_cons]at hx
 rcases hx with e|e|hx
 ·exact h.apart x (by simp[bL.foot,e]) hxm
 ·exact h.apart x (by simp[bL.foot,e]) hxm
 ·exact(t.foot x hx).elim (fun h1=>h.apart x (by simp[bL.foot,h1]) hxm) (fun h1=>by omega)
theorem bO.beside {w w':World} {s:bL} {d:ay} {nv:Value} {b:Nat} (h:bO w s d nv) (t:ab [b] w w') (hy:Ty w b 43):bO w' s d nv:=
 have hS:=bZ.one hy
 ⟨t.blk h.blk (h.blk.ty.notin hS (by decide)),t.blk h.net (h.net.ty.notin hS (by decide)),h.vol.away t (fun x hx hm=>by simp at hm;subst hm;exact h.vol.notype hy (by decide) hx),h.ver.away t hS (by decide) (by decide) (by decide) (by decide) (by decide),h.apart⟩
theorem yo (s:bL) (R:ByteArray) (cb m1 m2:Nat) (nv:Value) (w:World) (h:bO w s (dG R cb m1 m2) nv) (hm:oc s.i s.v R) (hR:R.size=32) (hmm:∀x,x∈s.i.foot s.v.d→x≠m2):
  Calls Tryz.prog 7 #[.pointer (some ⟨s.wb,0,none⟩),mH.v] w fun e w'=>e= .returned (.agg (eA 0).toArray)∧∃(s':bL) (x:ax),s'.wb=s.wb∧s'.xb=s.xb∧s'.nb=s.nb∧ab (s.i.foot s.v.d) w w'∧pH s'.i s'.v R x∧bO w' s' (dG R cb m1 m2) nv:=by
 have H0:=Lib.hid h
 have HM:=Lib.hid hm
 have HR:=Lib.hid hR
 have HMM:=Lib.hid hmm
 have HC:=Lib.hid (made_close hm).1
 have HRV:=Lib.hid (made_close hm).2.1
 have HSG:=Lib.hid (made_close hm).2.2
 have HFL:=Lib.hid h.vol.foot_lt
 clear h hm hR hmm
 go_enter Tryz.func7,Tryz.ntmps7
 go_wp2_with (first
  |((with_reducible refine ai 24 (.tmp 1) mH.cells (some 3) ?hgd ?ho ?hd ?hx ?_);(case hgd|ho|hd|hx=>rfl);(intro b3 w1 l1 B1 e1 z1))
  |((with_reducible refine af 43 _ rk (some 4) ?hgd ?ho ?hd ?_);(case hgd|ho|hd=>rfl);(intro b4 w2 l2 B2 e2 z2))
  |fail)
 have HX1:=Lib.hid B1
 have HL12:=Lib.hid l2
 have HL1:=Lib.hid l1
 have HL2:=Lib.hid (show w.heap.size≤b4 from Nat.le_trans l1 (Nat.le_trans (Nat.le_of_lt z1) l2))
 have hb1:=e1.mono l1
 have hb2:=e2.mono l2
 have HX2:=Lib.hid (B1.below hb2 B1.lt)
 have HY2:=Lib.hid B2
 have H2:=Lib.hid ((H0.out.below hb1).below hb2)
 have HT2:=Lib.hid ((ab.of_below (S:=s.i.foot s.v.d) hb1 (Nat.le_refl _)).trans (ab.of_below hb2 (Nat.le_refl _)))
 clear B1 e1 l1 z1 B2 e2 l2 z2 hb1 hb2 H0
 refine(eE s _ _ _ H2.out).mono ?_
 rintro e w' ⟨rfl,hw⟩
 subst hw
 have x0:w'.cell? ⟨b3,0,none⟩=some (.int .i64 5):=HX2.out.cell (i:=0) rfl
 have c5:w'.cell? ⟨s.wb,5,none⟩=some (.pointer (some ⟨s.i.vb,0,none⟩)):=H2.out.blk.cell (i:=5) rfl
 go_upto_region 12 with fail
 clear x0 c5
 refine hb (fun w'=>w'.cell? ⟨s.wb,5,none⟩=some (.pointer (some ⟨s.i.vb,0,none⟩))∧w'.rangeAt b3 0 mH.cells) (⟨H2.out.blk.drew.cell (i:=5) rfl,HX2.out.drew.range⟩) fun hHeld=> ?_
 obtain⟨w3,hw3⟩:∃x,x=w'.drew:=⟨_,rfl⟩
 have hb3:Below w'.heap.size w' w3:=by rw[hw3];exact(Below.refl _ _).drew
 have H3:=Lib.hid (H2.out.below hb3)
 have HX3:=Lib.hid (HX2.out.below hb3 HX2.out.lt)
 have HY3:=Lib.hid (HY2.out.below hb3 HY2.out.lt)
 have HT3:=Lib.hid (HT2.out.trans (ab.of_below hb3 (Nat.le_refl _)))
 rw[←hw3]
 rw[←hw3]at hHeld
 clear hw3 hb3
 refine hp 0 ?_
 refine hp 1 ?_
 refine hp 2 ?_
 refine hp 3 ?_
 refine hl 4 24 b3 0 (mH.cells) (fun w h=>h.2) Tryz.underlying24 mG ?_
 refine hc 5 fun K hK=> ?_
 go_simp
 refine(CZ s.i s.v 0 (de []) mH _ H3.out.vol HRV.out HC.out HSG.out rfl).mono ?_
 rintro e w4 ⟨rfl,s1,t,bl,nk,kb,q,nb,sv,ts,tt,tbl,tn,tkb,tq,hnb,hvt⟩
 have HF:=Lib.hid (yn HM.out HR.out ts tt tn (bl:=bl) (kb:=kb) (q:=q) (nb:=nb) (sv:=sv))
 have hy:=HY3.out
 have hx:=HX3.out
 have HX4:=Lib.hid (hvt.turned.blk hx (fun hm=>absurd (HFL.out b3 hm) (by have:=HL1.out;omega)))
 have HY4:=Lib.hid (hvt.turned.blk hy (fun hm=>absurd (HFL.out b4 hm) (by have:=HL2.out;omega)))
 have H4:=Lib.hid (H3.out.vto hvt HMM.out)
 have HT4:=Lib.hid (HT3.out.trans hvt.turned)
 clear hx hy ts tt tbl tn tkb tq hnb hvt
 (try go_wp2_with fail)
 refine hK.out _ _ (⟨H4.out.blk.cell (i:=5) rfl,HX4.out.range⟩) fun _=> ?_
 clear hK K hHeld
 rename_i hHeld
 (try go_frame)
 refine hc 6 fun K hK=> ?_
 refine fG 43 (.tmp 4) (.tmp 47) b4 (eA 0) (eA 0) 43 HY4.out rfl jk (rl 0) rfl rfl rfl ?_
 intro w5 B5 o5
 have HN45:=Lib.hid (show b3≠b4 by have:=HX1.out.lt;have:=HL12.out;omega)
 have HX5:=Lib.hid (o5.blk HX4.out HN45.out)
 have hbo:ab [b4] w4 w5:=o5.turned (by simp)
 have H5:=Lib.hid (H4.out.beside hbo HY4.out.ty)
 have HY5:=Lib.hid B5
 have HT5:=Lib.hid (HT4.out.on hbo (fun x hx=>by simp at hx;subst hx;exact .inr HL2.out))
 clear B5 o5 hbo
 refine hK.out _ _ (⟨H5.out.blk.cell (i:=5) rfl,HX5.out.range⟩) fun _=> ?_
 clear hK K hHeld
 rename_i hHeld
 (try go_frame)
 refine hd ?_
 clear hHeld
 go_wp2_with fail
 (try simp only[Exit.inBlock,Exit.then]);refine bodyPost_ret (dO rfl _ _ HY5.out.range rfl Tryz.underlying43 rfl jk) rfl ⟨rfl,_,_, ?_, ?_, ?_,HT5.out,HF.out,H5.out⟩
 ·rfl
 ·rfl
 ·rfl
theorem Db:(Tryz.prog.info? 55).map (fun i=>(i.zero,i.size,i.bytes))=some (some (.agg #[.int .i64 0, .int .i64 0]),2,16):=by kernel_rfl
theorem kE (w:World):Calls Tryz.prog 5 #[] w fun e w'=>e= .returned (.bool true)∧Below w.heap.size w w':=by
 have hfa:∀(w:World),Sem.run Tryz.prog (Instr.field 43 (.agg #[.int .i64 0, .string ⟨#[]⟩, .int .i64 0, .int .i64 0, .int .i64 0, .int .i64 0, .int .i64 0, .int .i64 0]) 0) w= .ok (.int .i64 0) w:=fun _=>by kernel_rfl
 go_enter Tryz.func5,Tryz.ntmps5
 go_wp2_with (first
  |((with_reducible refine ao 31 ?parts (aK.cells (⟨12,2,0⟩:aK)) ?hg ?ho ?hf ?_);(case hg|ho=>rfl);(case hf=>exact(by kernel_rfl)))
  |fail)
 refine(show Calls Tryz.prog 15 #[(⟨12,2,0⟩:aK).v, .string (⟨#[48,49,50,51,52,53,54,55,56,57,97,98,99,100,101,102,48,49,50,51,52,53,54,55,56,57,97,98,99,100,101,102]⟩:ByteArray)] w _ from C9 (⟨#[48,49,50,51,52,53,54,55,56,57,97,98,99,100,101,102,48,49,50,51,52,53,54,55,56,57,97,98,99,100,101,102]⟩:ByteArray) w (by decide)).mono ?_
 rintro e w1 ⟨⟨s,cb,m1,m2,rfl,hm,hw,hmm,hf1,hx1⟩,hb1⟩
 have HM:=Lib.hid hm
 have H1:=Lib.hid hw
 have HMM:=Lib.hid hmm
 have HF1:=Lib.hid hf1
 have HX1:=Lib.hid hx1
 have HB1:=Lib.hid hb1
 clear hm hw hmm hb1 hf1 hx1
 go_wp2_with (first
  |((with_reducible refine nF 24 ?parts mH.cells ?hg ?ho ?hf ?_);(case ho|hg=>rfl);(case hf=>exact Aq))
  |fail)
 refine(yo s (⟨#[48,49,50,51,52,53,54,55,56,57,97,98,99,100,101,102,48,49,50,51,52,53,54,55,56,57,97,98,99,100,101,102]⟩:ByteArray) cb m1 m2 _ _ H1.out HM.out (by decide) HMM.out).mono ?_
 rintro e w2 ⟨he,s',x,hwb,hxb,hnb,ht2,hf,hw⟩
 have he':e= .returned (.agg #[.int .i64 0, .string ⟨#[]⟩, .int .i64 0, .int .i64 0, .int .i64 0, .int .i64 0, .int .i64 0, .int .i64 0]):=he
 clear he
 subst he'
 rw[←hwb]
 have HF:=Lib.hid hf
 have H2:=Lib.hid hw
 have HB2:=Lib.hid (ht2.below HB1.out (fun y hy=>HF1.out y (by simp[bL.foot,hy])) HB1.out.size)
 have HNB:=Lib.hid (show w.heap.size≤s'.nb by rw[hnb];exact HF1.out _ (by simp[bL.foot]))
 have HXB:=Lib.hid (show w.heap.size≤s'.xb by rw[hxb];exact HX1.out)
 clear hwb hxb hnb ht2 hf hw H1 HM HMM HF1 HX1 HB1
 go_wp2_with fail
 refine(lW s' _ _ _ H2.out).mono ?_
 rintro e w' ⟨rfl,hw⟩
 subst hw
 go_wp2_with (first
  |((with_reducible refine nE 100 55 1 ?ps [.int .i64 0, .int .i64 0] (.agg #[.int .i64 0, .int .i64 0]) 2 16 (some 29) Tryz.underlying100 Db (by omega) (by omega) ?hgd ?ho ?hd ?hf ?_);(case hgd|ho|hd=>rfl);(case hf=>kernel_rfl);(intro g w3 l3 B3 e3 z3))
  |fail)
 have HG3:=Lib.hid B3
 have H3:=Lib.hid (H2.out.below (e3.mono l3))
 have HB3:=Lib.hid (HB2.out.trans ((e3.mono l3).mono HB2.out.size))
 clear B3 e3 l3 z3
 refine(vh s'.xb g 1 _ _ H3.out.ver rfl (show ByteArray.size (⟨#[48,49,50,51,52,53,54,55,56,57,97,98,99,100,101,102,48,49,50,51,52,53,54,55,56,57,97,98,99,100,101,102]⟩:ByteArray)=32 by decide) HG3.out).mono ?_
 rintro e w4 ⟨rfl,nonce,v,hn,hv⟩
 have H4:=Lib.hid (H3.out.to hv)
 have hfo:∀y,y∈(dG (⟨#[48,49,50,51,52,53,54,55,56,57,97,98,99,100,101,102,48,49,50,51,52,53,54,55,56,57,97,98,99,100,101,102]⟩:ByteArray) cb m1 m2).foot s'.xb→w.heap.size≤y:=fun y hy=>by
  have hy':y=s'.xb:=by simpa[ay.foot,dG,lO,Value.ownBlock]using hy
  rw[hy'];exact HXB.out
 have HB4:=Lib.hid (hv.turned.below HB3.out hfo HB3.out.size)
 have HFO:=Lib.hid (show ∀y,y∈(fh (dG (⟨#[48,49,50,51,52,53,54,55,56,57,97,98,99,100,101,102,48,49,50,51,52,53,54,55,56,57,97,98,99,100,101,102]⟩:ByteArray) cb m1 m2) nonce v 1).foot s'.xb→w.heap.size≤y from fun y hy=>(hv.foot y hy).elim (hfo y) (fun h=>Nat.le_trans HB3.out.size h))
 have HS:=Lib.hid (show ge (⟨#[48,49,50,51,52,53,54,55,56,57,97,98,99,100,101,102,48,49,50,51,52,53,54,55,56,57,97,98,99,100,101,102]⟩:ByteArray) x 0 (fh (dG (⟨#[48,49,50,51,52,53,54,55,56,57,97,98,99,100,101,102,48,49,50,51,52,53,54,55,56,57,97,98,99,100,101,102]⟩:ByteArray) cb m1 m2) nonce v 1)from⟨⟨rfl,hn,rfl,rfl,rfl⟩,rfl,rfl,rfl,rfl⟩)
 clear hn hv H3 HG3 hfo
 go_wp2_with fail
 refine(Ao s' _ x _ none _ HF.out H4.out HS.out).mono ?_
 rintro e w5 ⟨rfl,d',p',hd,ht⟩
 have H5:=Lib.hid ht.at'
 have HB5:=Lib.hid (ht.turned.below HB4.out (fun y hy=>(List.mem_cons.1 hy).elim (fun e=>by rw[e];exact HNB.out) (fun h=>HFO.out y h)) HB4.out.size)
 have HD:=Lib.hid (show d'.state=5∧d'.why=0 from hd)
 clear hd ht H4 HS
 go_wp2_with fail
 refine(lW s' _ _ _ H5.out).mono ?_
 rintro e w6 ⟨rfl,hw⟩
 subst hw
 go_wp2_with fail
 refine(nf s'.xb d' _ H5.out.ver).mono ?_
 rintro e w7 ⟨he,hw7⟩
 have HB7:=Lib.hid (show Below w.heap.size w w7 by rw[hw7];exact HB5.out.drew)
 clear hw7
 rw[HD.out.1,HD.out.2]at he
 subst he
 go_wp2_with fail
 go_ret
 exact⟨rfl,HB7.out⟩
def od:List Value:=[.pointer none, .int .i64 0, .int .i64 0, .int .i64 0, .pointer none, .pointer none, .string ⟨#[]⟩, .pointer none]
def dM (w:World) (v:Value):Prop:=v= .pointer none∨∃b,v= .pointer (some ⟨b,0,none⟩)∧ac w b od 36
theorem dM.below {w w':World} {v:Value} (h:dM w v) (hb:Below w.heap.size w w'):dM w' v:=
 h.imp id (fun⟨b,e,h1⟩=>⟨b,e,h1.below hb h1.lt⟩)
theorem Dc:Tryz.prog.built 36 []=some od.toArray:=by kernel_rfl
theorem df (v:Value) (w:World) (h:dM w v):
  Calls Tryz.prog 18 #[v] w fun e w'=>e= .returned (.bool false)∧w=w':=by
 rcases h with rfl|⟨b,rfl,hb⟩
 ·go_enter Tryz.func18,Tryz.ntmps18
  go_wp2_with fail
  go_ret
  exact⟨rfl,rfl⟩
 ·have c0:w.cell? ⟨b,0,none⟩=some (.pointer none):=hb.cell (i:=0) rfl
  go_enter Tryz.func18,Tryz.ntmps18
  go_wp2_with fail
  go_ret
  exact⟨rfl,rfl⟩
theorem nG (v:Value) (w:World) (h:dM w v):
  Calls Tryz.prog 8 #[v] w fun e w'=>e= .returned (.pointer none)∧Below w.heap.size w w':=by
 go_enter Tryz.func8,Tryz.ntmps8
 go_wp2_with fail
 refine(df v _ h).mono ?_
 rintro e w' ⟨rfl,rfl⟩
 go_wp2_with fail
 go_ret
 exact⟨rfl,Below.refl _ _⟩
theorem mb (v:Value) (w:World) (h:dM w v):
  Calls Tryz.prog 9 #[v] w fun e w'=>e= .returned (.pointer none)∧Below w.heap.size w w':=by
 go_enter Tryz.func9,Tryz.ntmps9
 go_wp2_with fail
 refine(df v _ h).mono ?_
 rintro e w' ⟨rfl,rfl⟩
 go_wp2_with fail
 go_ret
 exact⟨rfl,Below.refl _ _⟩
theorem mR (v:Value) (w:World) (h:dM w v):
  Calls Tryz.prog 10 #[v] w fun e w'=>e= .returned (.pointer none)∧Below w.heap.size w w':=by
 go_enter Tryz.func10,Tryz.ntmps10
 go_wp2_with fail
 refine(df v _ h).mono ?_
 rintro e w' ⟨rfl,rfl⟩
 go_wp2_with fail
 go_ret
 exact⟨rfl,Below.refl _ _⟩
theorem qB (v:Value) (w:World) (h:dM w v):
  Calls Tryz.prog 11 #[v] w fun e w'=>e= .returned (.int .i64 1)∧Below w.heap.size w w':=by
 go_enter Tryz.func11,Tryz.ntmps11
 go_wp2_with fail
 refine(df v _ h).mono ?_
 rintro e w' ⟨rfl,rfl⟩
 go_wp2_with fail
 go_ret
 exact⟨rfl,Below.refl _ _⟩
theorem mS (v:Value) (i:Int) (w:World) (h:dM w v):
  Calls Tryz.prog 12 #[v, .int .i64 i] w fun e w'=>e= .returned (.int .i64 1)∧Below w.heap.size w w':=by
 go_enter Tryz.func12,Tryz.ntmps12
 go_wp2_with fail
 refine(df v _ h).mono ?_
 rintro e w' ⟨rfl,rfl⟩
 go_wp2_with fail
 go_ret
 exact⟨rfl,Below.refl _ _⟩
theorem mc (v:Value) (w:World) (h:dM w v):
  Calls Tryz.prog 13 #[v] w fun e w'=>e= .returned (.int .i64 1)∧Below w.heap.size w w':=by
 go_enter Tryz.func13,Tryz.ntmps13
 go_wp2_with fail
 refine(df v _ h).mono ?_
 rintro e w' ⟨rfl,rfl⟩
 go_wp2_with fail
 go_ret
 exact⟨rfl,Below.refl _ _⟩
theorem o0 (v:Value) (w:World) (h:dM w v):
  Calls Tryz.prog 14 #[v] w fun e w'=>e= .returned (.int .i64 1)∧Below w.heap.size w w':=by
 have HN:=Lib.hid h
 rcases h with rfl|⟨b,rfl,hb⟩
 ·go_enter Tryz.func14,Tryz.ntmps14
  go_upto_region 1 with fail
  have B1:ac (w.alloc (Obj.cells #[.pointer none] 28)) w.heap.size [.pointer none] 28:=ac.new w [.pointer none] 28
  have e1:Below w.heap.size w (w.alloc (Obj.cells #[.pointer none] 28)):=(Below.refl _ _).alloc (Nat.le_refl _) _
  generalize w.alloc (Obj.cells #[.pointer none] 28)=w1 at B1 e1 ⊢
  have q0:=B1.cell (i:=0) rfl
  go_wp2_with fail
  refine(df _ _ (HN.out.below e1)).mono ?_
  rintro e w' ⟨rfl,rfl⟩
  go_wp2_with fail
  go_ret
  exact⟨rfl,e1⟩
 ·go_enter Tryz.func14,Tryz.ntmps14
  go_upto_region 1 with fail
  have B1:ac (w.alloc (Obj.cells #[.pointer (some ⟨b,0,none⟩)] 28)) w.heap.size [.pointer (some ⟨b,0,none⟩)] 28:=ac.new w [.pointer (some ⟨b,0,none⟩)] 28
  have e1:Below w.heap.size w (w.alloc (Obj.cells #[.pointer (some ⟨b,0,none⟩)] 28)):=(Below.refl _ _).alloc (Nat.le_refl _) _
  generalize w.alloc (Obj.cells #[.pointer (some ⟨b,0,none⟩)] 28)=w1 at B1 e1 ⊢
  have q0:=B1.cell (i:=0) rfl
  go_wp2_with fail
  refine(df _ _ (HN.out.below e1)).mono ?_
  rintro e w' ⟨rfl,rfl⟩
  go_wp2_with fail
  go_ret
  exact⟨rfl,e1⟩
theorem sn (v:Value) (n:Int) (w:World) (h:dM w v):
  Calls Tryz.prog 6 #[v, .int .i64 n] w fun e w'=>e= .returned (.tuple #[.int .i64 0, .int .i64 1])∧Below w.heap.size w w':=by
 have HN:=Lib.hid h
 rcases h with rfl|⟨b,rfl,hb⟩
 ·go_enter Tryz.func6,Tryz.ntmps6
  go_upto_region 1 with fail
  have B1:ac (w.alloc (Obj.cells #[.pointer none] 28)) w.heap.size [.pointer none] 28:=ac.new w [.pointer none] 28
  have e1:Below w.heap.size w (w.alloc (Obj.cells #[.pointer none] 28)):=(Below.refl _ _).alloc (Nat.le_refl _) _
  generalize w.alloc (Obj.cells #[.pointer none] 28)=w1 at B1 e1 ⊢
  have q0:=B1.cell (i:=0) rfl
  go_wp2_with fail
  refine(df _ _ (HN.out.below e1)).mono ?_
  rintro e w' ⟨rfl,rfl⟩
  go_wp2_with fail
  go_ret2
  exact⟨rfl,e1⟩
 ·go_enter Tryz.func6,Tryz.ntmps6
  go_upto_region 1 with fail
  have B1:ac (w.alloc (Obj.cells #[.pointer (some ⟨b,0,none⟩)] 28)) w.heap.size [.pointer (some ⟨b,0,none⟩)] 28:=ac.new w [.pointer (some ⟨b,0,none⟩)] 28
  have e1:Below w.heap.size w (w.alloc (Obj.cells #[.pointer (some ⟨b,0,none⟩)] 28)):=(Below.refl _ _).alloc (Nat.le_refl _) _
  generalize w.alloc (Obj.cells #[.pointer (some ⟨b,0,none⟩)] 28)=w1 at B1 e1 ⊢
  have q0:=B1.cell (i:=0) rfl
  go_wp2_with fail
  refine(df _ _ (HN.out.below e1)).mono ?_
  rintro e w' ⟨rfl,rfl⟩
  go_wp2_with fail
  go_ret2
  exact⟨rfl,e1⟩
theorem qC (v:Value) (cs:List Value) (w:World) (h:dM w v):
  Calls Tryz.prog 7 #[v, .agg cs.toArray] w fun e w'=>e= .returned (.agg (eA 1).toArray)∧Below w.heap.size w w':=by
 have H0:=Lib.hid h
 clear h
 go_enter Tryz.func7,Tryz.ntmps7
 go_wp2_with (first
  |((with_reducible refine ai 24 (.tmp 1) cs (some 3) ?hgd ?ho ?hd ?hx ?_);(case hgd|ho|hd|hx=>rfl);(intro b3 w1 l1 B1 e1 z1))
  |((with_reducible refine af 43 _ rk (some 4) ?hgd ?ho ?hd ?_);(case hgd|ho|hd=>rfl);(intro b4 w2 l2 B2 e2 z2))
  |fail)
 have hb2:Below w.heap.size w w2:=(e1.mono l1).trans (e2.mono (Nat.le_trans l1 (Nat.le_trans (Nat.le_of_lt z1) l2)))
 have hl2:w.heap.size≤b4:=Nat.le_trans l1 (Nat.le_trans (Nat.le_of_lt z1) l2)
 refine(df v _ (H0.out.below hb2)).mono ?_
 rintro e w' ⟨rfl,rfl⟩
 go_wp2_with (first
  |((with_reducible refine ao 43 ?parts (eA 1) ?hg ?ho ?hf ?_);(case hg|ho=>rfl);(case hf=>exact(kW 1)))
  |((with_reducible refine ae 43 (.tmp 4) (.tmp 8) b4 (eA 0) (eA 1) 43 B2 rfl jk (rl 1) ?hgd ?ho ?hx ?hy ?_);(case hgd|ho|hx|hy=>rfl);(intro w3 B3 o3))
  |fail)
 (try simp only[Exit.inBlock,Exit.then]);refine bodyPost_ret (dO rfl _ _ B3.range rfl Tryz.underlying43 rfl jk) rfl ⟨rfl,o3.below hb2 hl2⟩
end Go.Proofs.YtngiibgdgenidaaGreat
