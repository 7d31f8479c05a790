/- A verifier takes a proof that there is none; what it is told (chapter 28). Which of a verifier's steps a message is (chapter 28). A verifier takes a message (chapter 28). -/
import Derived.Test.YtngiibgdgenidaaGreatQ29
import Derived.Test.YtngiibgdgenidaaGreatQ26
import Derived.Test.YtngiibgdgenidaaGreatQ24
import Derived.Laws.EntriesVeiled
set_option linter.unusedSimpArgs false
set_option linter.unusedVariables false
set_option maxRecDepth 100000
set_option maxHeartbeats 4000000
namespace Go.Proofs.YtngiibgdgenidaaGreat
open Go Go.RowKit Go.Maps Go.WideMaps
def fl (u l:Value):List Value:=[.int .i64 0, .int .i64 0, .bool false, .bool false, .int .i64 0, .int .i64 0, .string ⟨#[]⟩, .int .i64 0, .string ⟨#[]⟩,u,l, .int .i64 0, .string ⟨#[]⟩]
theorem lh {u l:Value}:(Tryz.prog.info? 69).map (·.size)=some (fl u l).length:=by kernel_rfl
theorem nA (p1 p2:Option Addr) (c1 c2:Nat):∀v∈(fl (.slice p1 0 c1) (.slice p2 0 c2)),v.oneCell'=true:=by
 intro v hv;simp only[fl,List.mem_cons,List.mem_nil_iff,or_false]at hv
 rcases hv with rfl|rfl|rfl|rfl|rfl|rfl|rfl|rfl|rfl|rfl|rfl|rfl|rfl<;>rfl
theorem mD:(Tryz.prog.info? 69).map (fun i=>(i.zero,i.size,i.bytes))=some (some (.agg bV.toArray),13,160):=by kernel_rfl
theorem rz:Tryz.prog.built 368 [(0, .agg #[.int .i64 0, .int .i64 0]),(1, .int .i64 2)]=some ([.int .i64 0, .int .i64 0, .int .i64 2, .int .i64 0, .string ⟨#[]⟩]:List Value).toArray:=by kernel_rfl
theorem tD (vb:Nat) (d:ay) (x:ax) (p1 p2:Option Addr) (c1 c2:Nat) (w:World) (h:bq w vb d) (hna:d.na=1) (hvd:d.verd= .slice none 0 0) (hl:d.l=[x]) (hk:x.r.kind=1) (he:x.r.epoch=0) (hc:x.r.count=0) (hr:ak x.r.root (de [])):
  Calls Tryz.prog 239 #[.pointer (some ⟨vb,0,none⟩), .agg (fl (.slice p1 0 c1) (.slice p2 0 c2)).toArray] w fun e w'=>e= .returned (.tuple #[])∧∃v',bW w w' vb d {d with state:=5,why:=0,verd:=v'}:=by
 have HV:=Lib.hid h
 have HNA:=Lib.hid hna
 have HVD:=Lib.hid hvd
 have HCL:=Lib.hid (fun(wx:World) (h':bq wx vb d)=>rx vb d x wx h' hl hk he)
 have HC:=Lib.hid hc
 have HR:=Lib.hid hr
 clear h hna hvd hl hk he hc hr
 go_enter Tryz.func239,Tryz.ntmps239
 go_upto_region 1 with(first
  |((with_reducible refine ai 69 (.tmp 1) (fl (.slice p1 0 c1) (.slice p2 0 c2)) (some 3) ?hgd ?ho ?hd ?hx ?_);(case hgd|ho|hd|hx=>rfl);(intro b3 w1 l1 B1 e1 z1))
  |fail)
 have HB1:=Lib.hid (show Below w.heap.size w w1 from e1.mono l1)
 have HX1:=Lib.hid B1
 have HV1:=Lib.hid (HV.out.below HB1.out)
 clear B1 e1 l1 z1
 have x0:=HX1.out.cell (i:=0) rfl
 go_wp2_with fail
 refine(HCL.out _ HV1.out).mono ?_
 rintro e w2 ⟨rfl,hb2⟩
 have HX2:=Lib.hid (HX1.out.below hb2 HX1.out.lt)
 have HV2:=Lib.hid (HV1.out.below hb2)
 have HB2:=Lib.hid (HB1.out.trans (hb2.mono HB1.out.size))
 clear hb2 x0
 go_upto_region 2 with(first
  |((with_reducible refine af 59 _ qx (some 4) ?hgd ?ho ?hd ?_);(case hgd|ho|hd=>rfl);(intro b4 w3 l3 B3 e3 z3))
  |((with_reducible refine ae 59 (.tmp 4) (.tmp 18) b4 Rec.zero.cells x.r.cells 59 B3 rfl aS (nt _) ?hgd ?ho ?hx ?hy ?_);(case hgd|ho|hx|hy=>rfl);(intro w4 B4 o4))
  |fail)
 have hb4:Below w2.heap.size w2 w4:=o4.below (e3.mono l3) l3
 have HX4:=Lib.hid (HX2.out.below hb4 HX2.out.lt)
 have HR4:=Lib.hid B4
 have HV4:=Lib.hid (HV2.out.below hb4)
 have HB4:=Lib.hid (HB2.out.trans (hb4.mono HB2.out.size))
 clear B3 e3 l3 z3 B4 o4 hb4
 have x1:=HX4.out.cell (i:=1) rfl
 have y6:=HR4.out.cell (i:=6) rfl
 have y3:w4.cell? ⟨b4,3,none⟩=some (.int .i64 0):=by rw[←HC.out];exact HR4.out.cell (i:=3) rfl
 have HRP:=Lib.hid (show w4.rangeAt b3 3 (jJ (.slice p1 0 c1) (.slice p2 0 c2))from fun j u hu=>by
  have h8:j<8:=(List.getElem?_eq_some_iff.1 hu).1
  have:=HX4.out.range (3+j) u (by rw[←hu];obtain _|_|_|_|_|_|_|_|j:=j<;>first|rfl|omega)
  simpa using this)
 go_wp2_with (first
  |((with_reducible refine ag 67 (.tmp 27) b3 3 (jJ (.slice p1 0 c1) (.slice p2 0 c2)) _ (some 28) (HRP.out) Tryz.underlying67 rfl qw ?hg ?ho ?hds ?hx ?_);(case ho|hg|hds|hx=>rfl))
  |fail)
 refine(xK x.r.root p1 p2 c1 c2 _ HR.out).mono ?_
 rintro e w5 ⟨rfl,hb5⟩
 have HX5:=Lib.hid (HX4.out.below hb5 HX4.out.lt)
 have HV5:=Lib.hid (HV4.out.below hb5)
 have HB5:=Lib.hid (HB4.out.trans (hb5.mono HB4.out.size))
 clear hb5 x1 y6 y3
 have x0:=HX5.out.cell (i:=0) rfl
 have x11:=HX5.out.cell (i:=11) rfl
 have x12:=HX5.out.cell (i:=12) rfl
 go_wp2_with fail
 refine(A5 0 0 (⟨#[]⟩:ByteArray) _ (by decide) (by decide) (by decide) (by decide) (by decide)).mono ?_
 rintro e w6 ⟨⟨q,rfl,_⟩,hb6⟩
 have HX6:=Lib.hid (HX5.out.below hb6 HX5.out.lt)
 have HV6:=Lib.hid (HV5.out.below hb6)
 have HB6:=Lib.hid (HB5.out.trans (hb6.mono HB5.out.size))
 clear hb6 x0 x11 x12
 have x0:=HX6.out.cell (i:=0) rfl
 have x1:=HX6.out.cell (i:=1) rfl
 have x11:=HX6.out.cell (i:=11) rfl
 have x12:=HX6.out.cell (i:=12) rfl
 have hss:((⟨#[]⟩:ByteArray).toList==([]:List UInt8))=true:=by rw[Lib.toList_data];decide
 go_wp2_with (first
  |((with_reducible refine ao 368 ?parts ([.int .i64 0, .int .i64 0, .int .i64 2, .int .i64 0, .string ⟨#[]⟩]:List Value) ?hg ?ho ?hf ?_);(case hg|ho=>rfl);(case hf=>exact rz))
  |fail)
 refine(ru vb d _ HV6.out HNA.out HVD.out).mono ?_
 rintro e w7 ⟨rfl,v',hv'⟩
 have V7:=Lib.hid (bW.ahead HB6.out hv')
 clear hv'
 go_wp2_with fail
 go_end0
 exact⟨rfl,_,V7.out⟩
theorem xX (vb:Nat) (d:ay) (m:aa) (x:ax) (k:kP) (p1 p2:Option Addr) (c1 c2:Nat) (w:World) (h:bq w vb d) (hto:m.told=ar.zero) (hbk:d.bk=some k) (hal:d.all= .slice none 0 0) (hna:d.na=1) (hvd:d.verd= .slice none 0 0) (hl:d.l=[x]) (hk:x.r.kind=1) (he:x.r.epoch=0) (hc:x.r.count=0) (hr:ak x.r.root (de [])):
  Calls Tryz.prog 128 #[.pointer (some ⟨vb,0,none⟩),m.v (.slice p1 0 c1) (.slice p2 0 c2)] w fun e w'=>e= .returned (.int .i64 0)∧∃v' a',bW w w' vb d {d with state:=5,why:=0,verd:=v',all:=a'}:=by
 have HH:=Lib.hid h
 have HTO:=Lib.hid hto
 have HBK:=Lib.hid hbk
 have HAL:=Lib.hid hal
 have HNA:=Lib.hid hna
 have HPR:=Lib.hid (fun(wx:World) (a':Value) (h':bq wx vb {d with all:=a'})=>tD vb {d with all:=a'} x p1 p2 c1 c2 wx h' hna hvd hl hk he hc hr)
 clear h hto hbk hal hna hvd hl hk he hc hr
 go_enter Tryz.func128,Tryz.ntmps128
 go_upto_region 1 with(first
  |((with_reducible refine ai 73 (.tmp 1) (m.cells (.slice p1 0 c1) (.slice p2 0 c2)) (some 3) ?hgd ?ho ?hd ?hx ?_);(case hgd|ho|hd|hx=>rfl);(intro b0 w0 l0 B0 e0 z0))
  |fail)
 have HB0:=Lib.hid (show Below w.heap.size w w0 from e0.mono l0)
 have HX0:=Lib.hid B0
 have HV0:=Lib.hid (HH.out.below HB0.out)
 have HL0:=Lib.hid (show w.heap.size≤b0 from l0)
 clear B0 e0 l0 z0
 have HRT:=Lib.hid (show w0.rangeAt b0 17 (fl (.slice p1 0 c1) (.slice p2 0 c2))from fun j u hu=>by
  have h13:j<13:=(List.getElem?_eq_some_iff.1 hu).1
  have:=HX0.out.range (17+j) u (by rw[←hu];unfold aa.cells;rw[HTO.out];obtain _|_|_|_|_|_|_|_|_|_|_|_|_|j:=j<;>first|rfl|omega)
  simpa using this)
 go_upto_region 2 with(first
  |((with_reducible refine ag 69 (.tmp 7) b0 17 ((fl (.slice p1 0 c1) (.slice p2 0 c2))) _ (some 8) (HRT.out) Tryz.underlying69 rfl lh ?hg ?ho ?hds ?hx ?_);(case ho|hg|hds|hx=>rfl))
  |((with_reducible refine af 69 _ kV (some 5) ?hgd ?ho ?hd ?_);(case hgd|ho|hd=>rfl);(intro b5 w2 l2 B2 e2 z2))
  |((with_reducible refine ae 69 (.tmp 5) (.tmp 8) b5 bV (fl (.slice p1 0 c1) (.slice p2 0 c2)) 69 B2 rfl lh (nA _ _ _ _) ?hgd ?ho ?hx ?hy ?_);(case hgd|ho|hx|hy=>rfl);(intro w3 B3 o3))
  |fail)
 have hb3:Below w0.heap.size w0 w3:=o3.below (e2.mono l2) l2
 have HXw3:=Lib.hid B3
 have HV3:=Lib.hid (HV0.out.below hb3)
 have HB3:=Lib.hid (HB0.out.trans (hb3.mono HB0.out.size))
 have HMw3:=Lib.hid HV3.out.blk
 have HOw3:=Lib.hid (show w3.ownsRow 0 69 13 (.slice none 0 0) 0 []from World.ownsRow_nil _ 0 69 13)
 have HCK:=Lib.hid (show d.cells[55]?=some (.slice none 0 0)from by show some d.all= _;rw[HAL.out])
 clear B2 e2 l2 z2 B3 o3 hb3
 (try go_frame)
 go_cut []from 9 to 20 (fun wx=>vq w3 wx vb 55 d.cells 113 69 13 (.slice none 0 0) (0+1) ([]++(fl (.slice p1 0 c1) (.slice p2 0 c2))))
 case first=>
  refine hb (fun wx=>wx.rangeAt b5 0 (fl (.slice p1 0 c1) (.slice p2 0 c2))) (HXw3.out.drew.range) fun hHeld=> ?_
  obtain⟨wd,hwd⟩:∃wd,wd=w3.drew:=⟨_,rfl⟩
  have hbd:Below w3.heap.size w3 wd:=by rw[hwd];exact(Below.refl _ _).drew
  have HTw3:=Lib.hid (ab.refl (vb::((Value.slice none 0 0)).ownBlock.toList) w3)
  have HXwd:=Lib.hid (HXw3.out.below hbd HXw3.out.lt)
  have HMwd:=Lib.hid (HMw3.out.below hbd HMw3.out.lt)
  have HOwd:=Lib.hid (own_below hbd HOw3.out)
  have HTwd:=Lib.hid (HTw3.out.trans (ab.of_below hbd (Nat.le_refl _)))
  rw[←hwd]
  rw[←hwd]at hHeld
  clear hwd hbd
  obtain⟨i0,hi,hz0,hz1,hz2⟩:=info_parts mD
  refine hp 0 ?_
  refine hp 1 ?_
  refine hp 2 ?_
  refine hp 3 ?_
  refine hp 4 ?_
  refine hl 6 69 b5 0 ((fl (.slice p1 0 c1) (.slice p2 0 c2))) (fun w h=>h) Tryz.underlying69 lh ?_
  refine hc2 5 7 (fun K hK=> ?_) (fun K hK=> ?_)
  ·have c4:wd.cell? ⟨vb,55,none⟩=some ((Value.slice none 0 0)):=HMwd.out.cell (i:=55) HCK.out
   go_simp
   clear c4
   (try go_wp2_with fail)
   refine hK.out _ _ (HXwd.out.range) fun _=> ?_
   clear hK K hHeld
   rename_i hHeld
   (try go_frame)
   refine hc 7 fun K hK=> ?_
   refine dz 109 69 1 _ (fl (.slice p1 0 c1) (.slice p2 0 c2)) (.agg bV.toArray) 13 160 Tryz.underlying109 mD (by omega) (by omega) rfl (by kernel_rfl) ?_
   intro g8 w8 l8 B8 e8 z8
   have hb8:Below wd.heap.size wd w8:=e8.mono l8
   have HG8:=Lib.hid B8
   have HXw8:=Lib.hid (HXwd.out.below hb8 HXwd.out.lt)
   have HMw8:=Lib.hid (HMwd.out.below hb8 HMwd.out.lt)
   have HOw8:=Lib.hid (own_below hb8 HOwd.out)
   have HTw8:=Lib.hid (HTwd.out.trans (ab.of_below hb8 (Nat.le_refl _)))
   clear B8 e8 z8 hb8 l8
   (try go_wp2_with fail)
   refine hK.out _ _ (HXw8.out.range) fun _=> ?_
   clear hK K hHeld
   rename_i hHeld
   (try go_frame)
   refine hc 8 fun K hK=> ?_
   refine dh _ _ 109 rfl i0 (.agg bV.toArray) 160 Tryz.underlying109 hi hz0 hz1 hz2 rfl (by decide) rfl HOw8.out ⟨g8,0,none⟩ 1 1 (fl (.slice p1 0 c1) (.slice p2 0 c2)) rfl rfl (cj HG8.out) (nA _ _ _ _) (by decide) (by decide) (Nat.zero_le _) ?_
   intro v' w9 own9 grow9' near9'
   have grow9:w8.grownBy w9 ((Value.slice none 0 0)).ownBlock:=grow9'
   have near9:fC w8 ((Value.slice none 0 0)).ownBlock v'.ownBlock:=near9'
   clear grow9' near9'
   obtain⟨p9,q9,hsh⟩:=aQ own9
   subst hsh
   have HXw9:=Lib.hid (HXw8.out.grown grow9 (fun e=>by cases e))
   have HMw9:=Lib.hid (HMw8.out.grown grow9 (fun e=>absurd (show 69=113 from(aV HOw8.out e.symm).eq HMw8.out.ty) (by decide)))
   have HO9:=Lib.hid own9
   have HNE:=Lib.hid (near9.back HTw8.out.size)
   have HTw9:=Lib.hid (HTw8.out.trans (ab.of_grown grow9 (fun k hk=>by simp[hk])))
   clear own9 grow9 near9
   (try go_wp2_with fail)
   refine hK.out _ _ (HXw9.out.range) fun _=> ?_
   clear hK K hHeld
   rename_i hHeld
   (try go_frame)
   refine hp 9 ?_
   refine hp 10 ?_
   refine hp 11 ?_
   have c4:=HMw9.out.cell (i:=55) HCK.out
   have f4:=HMw9.out.free 55
   refine hc 12 fun K hK=> ?_
   go_simp
   have HXwx:=Lib.hid (HXw9.out.set_other (a:=⟨vb,55,none⟩) (fun e=>absurd ((e ▸ HXw9.out.ty).eq HMw9.out.ty) (by decide)) (.slice p9 (0+1) q9))
   have HMwx:=Lib.hid (HMw9.out.set 55 (.slice p9 (0+1) q9))
   have HTwx:=Lib.hid (HTw9.out.setCell (b:=vb) (.inl (by simp)) 55 (.slice p9 (0+1) q9))
   have HOx:=Lib.hid (aB HO9.out ((ab.refl [vb] w9).setCell (b:=vb) (.inl (by simp)) 55 (.slice p9 (0+1) q9)) (fun k hk=>(aV HO9.out hk).notin (bZ.one HMw9.out.ty) (by decide)))
   clear c4 f4
   (try go_wp2_with fail)
   refine hK.out _ _ (HXwx.out.range) fun _=> ?_
   clear hK K hHeld
   rename_i hHeld
   (try go_frame)
   refine hd ?_
   clear hHeld
   (try go_wp2_with fail)
   go_meet
   exact⟨_,by exact HOx.out,HMwx.out,HTwx.out,HNE.out⟩
  ·refine dz 109 69 1 _ (fl (.slice p1 0 c1) (.slice p2 0 c2)) (.agg bV.toArray) 13 160 Tryz.underlying109 mD (by omega) (by omega) rfl (by kernel_rfl) ?_
   intro g8 w8 l8 B8 e8 z8
   have hb8:Below wd.heap.size wd w8:=e8.mono l8
   have HG8:=Lib.hid B8
   have HXw8:=Lib.hid (HXwd.out.below hb8 HXwd.out.lt)
   have HMw8:=Lib.hid (HMwd.out.below hb8 HMwd.out.lt)
   have HOw8:=Lib.hid (own_below hb8 HOwd.out)
   have HTw8:=Lib.hid (HTwd.out.trans (ab.of_below hb8 (Nat.le_refl _)))
   clear B8 e8 z8 hb8 l8
   (try go_wp2_with fail)
   refine hK.out _ _ (HXw8.out.range) fun _=> ?_
   clear hK K hHeld
   rename_i hHeld
   (try go_frame)
   refine hc 5 fun K hK=> ?_
   have c4:w8.cell? ⟨vb,55,none⟩=some ((Value.slice none 0 0)):=HMw8.out.cell (i:=55) HCK.out
   go_simp
   clear c4
   (try go_wp2_with fail)
   refine hK.out _ _ (HXw8.out.range) fun _=> ?_
   clear hK K hHeld
   rename_i hHeld
   (try go_frame)
   refine hc 8 fun K hK=> ?_
   refine dh _ _ 109 rfl i0 (.agg bV.toArray) 160 Tryz.underlying109 hi hz0 hz1 hz2 rfl (by decide) rfl HOw8.out ⟨g8,0,none⟩ 1 1 (fl (.slice p1 0 c1) (.slice p2 0 c2)) rfl rfl (cj HG8.out) (nA _ _ _ _) (by decide) (by decide) (Nat.zero_le _) ?_
   intro v' w9 own9 grow9' near9'
   have grow9:w8.grownBy w9 ((Value.slice none 0 0)).ownBlock:=grow9'
   have near9:fC w8 ((Value.slice none 0 0)).ownBlock v'.ownBlock:=near9'
   clear grow9' near9'
   obtain⟨p9,q9,hsh⟩:=aQ own9
   subst hsh
   have HXw9:=Lib.hid (HXw8.out.grown grow9 (fun e=>by cases e))
   have HMw9:=Lib.hid (HMw8.out.grown grow9 (fun e=>absurd (show 69=113 from(aV HOw8.out e.symm).eq HMw8.out.ty) (by decide)))
   have HO9:=Lib.hid own9
   have HNE:=Lib.hid (near9.back HTw8.out.size)
   have HTw9:=Lib.hid (HTw8.out.trans (ab.of_grown grow9 (fun k hk=>by simp[hk])))
   clear own9 grow9 near9
   (try go_wp2_with fail)
   refine hK.out _ _ (HXw9.out.range) fun _=> ?_
   clear hK K hHeld
   rename_i hHeld
   (try go_frame)
   refine hp 9 ?_
   refine hp 10 ?_
   refine hp 11 ?_
   have c4:=HMw9.out.cell (i:=55) HCK.out
   have f4:=HMw9.out.free 55
   refine hc 12 fun K hK=> ?_
   go_simp
   have HXwx:=Lib.hid (HXw9.out.set_other (a:=⟨vb,55,none⟩) (fun e=>absurd ((e ▸ HXw9.out.ty).eq HMw9.out.ty) (by decide)) (.slice p9 (0+1) q9))
   have HMwx:=Lib.hid (HMw9.out.set 55 (.slice p9 (0+1) q9))
   have HTwx:=Lib.hid (HTw9.out.setCell (b:=vb) (.inl (by simp)) 55 (.slice p9 (0+1) q9))
   have HOx:=Lib.hid (aB HO9.out ((ab.refl [vb] w9).setCell (b:=vb) (.inl (by simp)) 55 (.slice p9 (0+1) q9)) (fun k hk=>(aV HO9.out hk).notin (bZ.one HMw9.out.ty) (by decide)))
   clear c4 f4
   (try go_wp2_with fail)
   refine hK.out _ _ (HXwx.out.range) fun _=> ?_
   clear hK K hHeld
   rename_i hHeld
   (try go_frame)
   refine hd ?_
   clear hHeld
   (try go_wp2_with fail)
   go_meet
   exact⟨_,by exact HOx.out,HMwx.out,HTwx.out,HNE.out⟩
 case rest=>
 obtain⟨a',hown,hblk,hturn0,hnear⟩:=hcut.ex
 have hturn:ab [vb] w3 wc:=by simpa[Value.ownBlock]using hturn0
 have hS:=bZ.one HV3.out.blk.ty
 have HTc:=Lib.hid (hturn.blk HXw3.out (HXw3.out.ty.notin hS (by decide)))
 have V1:=Lib.hid (bW.ahead HB3.out (HV3.out.put hturn (d':={d with all:=a'}) hblk))
 clear hcut hown hblk hturn hturn0 hnear HMw3 HOw3 HXw3 hS
 go_upto_region 3 with fail
 obtain⟨w5,hw5⟩:∃y,y=wc.drew:=⟨_,rfl⟩
 have hb5:Below wc.heap.size wc w5:=by rw[hw5];exact(Below.refl _ _).drew
 have HT5:=Lib.hid (HTc.out.below hb5 HTc.out.lt)
 have HA5:=Lib.hid (V1.out.at'.below hb5)
 have V5:=Lib.hid (V1.out.below hb5)
 refine hb (fun w'=>w'.cell? ⟨vb,53,none⟩=some (.pointer (some ⟨k.bb,0,none⟩))∧w'.cell? ⟨b5,0,none⟩=some (.int .i64 0)) ((by rw[←hw5];exact⟨(by have h9:=HA5.out.blk.cell (i:=53) rfl;rw[show yD d.bk= .pointer (some ⟨k.bb,0,none⟩) by rw[HBK.out];rfl]at h9;exact h9),HT5.out.cell (i:=0) rfl⟩)) fun hHeld=> ?_
 rw[←hw5]
 rw[←hw5]at hHeld
 clear hw5 hb5
 refine hp 0 ?_
 refine hp 1 ?_
 refine hp 2 ?_
 refine hp 3 ?_
 refine hp 4 ?_
 refine hp 5 ?_
 refine hp 6 ?_
 refine hp 7 ?_
 refine hc 8 fun K hK=> ?_
 go_simp
 have hk9:=HA5.out.book k HBK.out
 refine(mN k.bb k.c2 k.n1 k.n2 k.n3 0 0 d.bep 0 (.map []) (.map []) (.map []) false _ hk9.book hk9.maps (by decide) (by decide) rfl).mono ?_
 rintro e w' ⟨rfl,rfl⟩
 clear hk9
 (try go_wp2_with fail)
 refine hK.out _ _ (⟨(by have h9:=HA5.out.blk.cell (i:=53) rfl;rw[show yD d.bk= .pointer (some ⟨k.bb,0,none⟩) by rw[HBK.out];rfl]at h9;exact h9),HT5.out.cell (i:=0) rfl⟩) fun _=> ?_
 clear hK K hHeld
 rename_i hHeld
 (try go_frame)
 refine hp 9 ?_
 refine hd ?_
 clear hHeld
 have x1:=HT5.out.cell (i:=2) rfl
 go_wp2_with (first
  |((with_reducible refine ag 69 (.tmp 5) b5 0 ((fl (.slice p1 0 c1) (.slice p2 0 c2))) _ (some 31) (HT5.out.range) Tryz.underlying69 rfl lh ?hg ?ho ?hds ?hx ?_);(case ho|hg|hds|hx=>rfl))
  |fail)
 refine(HPR.out _ a' HA5.out).mono ?_
 rintro e w7 ⟨rfl,v',hv'⟩
 have V7:=Lib.hid (V5.out.trans hv')
 clear hv' x1
 go_wp2_with fail
 go_ret
 exact⟨rfl,v',a',V7.out⟩
theorem vz (vb:Nat) (d:ay) (m:aa) (p1 p2:Option Addr) (c1 c2:Nat) (w:World) (h:bq w vb d) (hk:m.kind=2) (hs:d.state=1):
  Calls Tryz.prog 68 #[.pointer (some ⟨vb,0,none⟩),m.v (.slice p1 0 c1) (.slice p2 0 c2)] w fun e w'=>e= .returned (.func (.func 125) #[.pointer (some ⟨vb,0,none⟩)] #[])∧Below w.heap.size w w':=by
 have HH:=Lib.hid h
 have HK:=Lib.hid hk
 have HS:=Lib.hid hs
 have hmk:∀(fn:Fn) (first cap:Array Value) (w:World),(Instr.makeFunc fn first cap).run Tryz.prog w= .ok (.func fn first cap) w:=fun _ _ _ _=>rfl
 clear h hk hs
 go_enter Tryz.func68,Tryz.ntmps68
 go_wp2_with (first
  |((with_reducible refine ai 73 (.tmp 1) (m.cells (.slice p1 0 c1) (.slice p2 0 c2)) (some 3) ?hgd ?ho ?hd ?hx ?_);(case hgd|ho|hd|hx=>rfl);(intro b0 w0 l0 B0 e0 z0))
  |fail)
 have HB0:=Lib.hid (show Below w.heap.size w w0 from e0.mono l0)
 have HX0:=Lib.hid B0
 have HV0:=Lib.hid (HH.out.below HB0.out)
 clear B0 e0 l0 z0
 refine hb (fun w'=>w'.cell? ⟨b0,0,none⟩=some (.int .i64 2)∧w'.cell? ⟨vb,6,none⟩=some (.int .i64 1)) (⟨(by rw[←HK.out];exact HX0.out.drew.cell (i:=0) rfl),(by rw[←HS.out];exact HV0.out.blk.drew.cell (i:=6) rfl)⟩) fun hHeld=> ?_
 refine hp 0 ?_
 refine hp 1 ?_
 refine hp 2 ?_
 refine hp 3 ?_
 refine hp 4 ?_
 refine hp 5 ?_
 refine hp 6 ?_
 refine hp 7 ?_
 refine hp 8 ?_
 refine hp 9 ?_
 refine hp 10 ?_
 refine hn 11 ?_
 refine hn 12 ?_
 refine hn 13 ?_
 refine hn 14 ?_
 refine hn 15 ?_
 refine hn 16 ?_
 refine hn 17 ?_
 refine hn 18 ?_
 refine hn 19 ?_
 refine hn 20 ?_
 refine hn 21 ?_
 refine hn 22 ?_
 refine hn 23 ?_
 refine hn 24 ?_
 refine hn 25 ?_
 refine hn 26 ?_
 refine hp 27 ?_
 refine hp 28 ?_
 refine hp 29 ?_
 refine hd ?_
 clear hHeld
 obtain⟨w1,hw1⟩:∃x,x=w0.drew:=⟨_,rfl⟩
 have hb1:Below w0.heap.size w0 w1:=by rw[hw1];exact(Below.refl _ _).drew
 have HX1:=Lib.hid (HX0.out.below hb1 HX0.out.lt)
 have HV1:=Lib.hid (HV0.out.below hb1)
 have HB1:=Lib.hid (HB0.out.trans (hb1.mono HB0.out.size))
 rw[←hw1]
 clear hw1 hb1
 go_wp2_with fail
 go_ret
 exact⟨rfl,HB1.out⟩
theorem vB (vb:Nat) (d:ay) (m:aa) (p1 p2:Option Addr) (c1 c2:Nat) (w:World) (h:bq w vb d) (hk:m.kind=4) (hs:d.state=2) (he:m.epoch=d.epoch):
  Calls Tryz.prog 68 #[.pointer (some ⟨vb,0,none⟩),m.v (.slice p1 0 c1) (.slice p2 0 c2)] w fun e w'=>e= .returned (.func (.func 126) #[.pointer (some ⟨vb,0,none⟩)] #[])∧Below w.heap.size w w':=by
 have HH:=Lib.hid h
 have HK:=Lib.hid hk
 have HS:=Lib.hid hs
 have HE:=Lib.hid he
 clear he
 have hmk:∀(fn:Fn) (first cap:Array Value) (w:World),(Instr.makeFunc fn first cap).run Tryz.prog w= .ok (.func fn first cap) w:=fun _ _ _ _=>rfl
 clear h hk hs
 go_enter Tryz.func68,Tryz.ntmps68
 go_wp2_with (first
  |((with_reducible refine ai 73 (.tmp 1) (m.cells (.slice p1 0 c1) (.slice p2 0 c2)) (some 3) ?hgd ?ho ?hd ?hx ?_);(case hgd|ho|hd|hx=>rfl);(intro b0 w0 l0 B0 e0 z0))
  |fail)
 have HB0:=Lib.hid (show Below w.heap.size w w0 from e0.mono l0)
 have HX0:=Lib.hid B0
 have HV0:=Lib.hid (HH.out.below HB0.out)
 clear B0 e0 l0 z0
 refine hb (fun w'=>w'.cell? ⟨b0,0,none⟩=some (.int .i64 4)) ((by rw[←HK.out];exact HX0.out.drew.cell (i:=0) rfl)) fun hHeld=> ?_
 refine hp 0 ?_
 refine hp 1 ?_
 refine hp 2 ?_
 refine hp 3 ?_
 refine hn 4 ?_
 refine hn 5 ?_
 refine hn 6 ?_
 refine hn 7 ?_
 refine hn 8 ?_
 refine hn 9 ?_
 refine hn 10 ?_
 refine hn 11 ?_
 refine hn 12 ?_
 refine hn 13 ?_
 refine hn 14 ?_
 refine hn 15 ?_
 refine hn 16 ?_
 refine hn 17 ?_
 refine hn 18 ?_
 refine hn 19 ?_
 refine hn 20 ?_
 refine hn 21 ?_
 refine hn 22 ?_
 refine hn 23 ?_
 refine hn 24 ?_
 refine hn 25 ?_
 refine hn 26 ?_
 refine hn 27 ?_
 refine hp 28 ?_
 refine hp 29 ?_
 refine hd ?_
 clear hHeld
 obtain⟨w1,hw1⟩:∃x,x=w0.drew:=⟨_,rfl⟩
 have hb1:Below w0.heap.size w0 w1:=by rw[hw1];exact(Below.refl _ _).drew
 have HX1:=Lib.hid (HX0.out.below hb1 HX0.out.lt)
 have HV1:=Lib.hid (HV0.out.below hb1)
 have HB1:=Lib.hid (HB0.out.trans (hb1.mono HB0.out.size))
 rw[←hw1]
 clear hw1 hb1
 go_upto_region 3 with fail
 refine hb (fun w'=>w'.cell? ⟨b0,0,none⟩=some (.int .i64 4)∧w'.cell? ⟨vb,6,none⟩=some (.int .i64 2)∧w'.cell? ⟨b0,1,none⟩=some (.int .i64 d.epoch)∧w'.cell? ⟨vb,10,none⟩=some (.int .i64 d.epoch)) (⟨(by rw[←HK.out];exact HX1.out.drew.cell (i:=0) rfl),(by rw[←HS.out];exact HV1.out.blk.drew.cell (i:=6) rfl),(by rw[←HE.out];exact HX1.out.drew.cell (i:=1) rfl),HV1.out.blk.drew.cell (i:=10) rfl⟩) fun hHeld=> ?_
 refine hp 0 ?_
 refine hp 1 ?_
 refine hp 2 ?_
 refine hp 3 ?_
 refine hp 4 ?_
 refine hp 5 ?_
 refine hp 6 ?_
 refine hp 7 ?_
 refine hp 8 ?_
 refine hp 9 ?_
 refine hp 10 ?_
 refine hp 11 ?_
 refine hp 12 ?_
 refine hp 13 ?_
 refine hp 14 ?_
 refine hp 15 ?_
 refine hp 16 ?_
 refine hp 17 ?_
 refine hp 18 ?_
 refine hp 19 ?_
 refine hp 20 ?_
 refine hp 21 ?_
 refine hd ?_
 clear hHeld
 obtain⟨w2,hw2⟩:∃x,x=w1.drew:=⟨_,rfl⟩
 have hb2:Below w1.heap.size w1 w2:=by rw[hw2];exact(Below.refl _ _).drew
 have HX2:=Lib.hid (HX1.out.below hb2 HX1.out.lt)
 have HV2:=Lib.hid (HV1.out.below hb2)
 have HB2:=Lib.hid (HB1.out.trans (hb2.mono HB1.out.size))
 rw[←hw2]
 clear hw2 hb2
 go_wp2_with fail
 go_ret
 exact⟨rfl,HB2.out⟩
theorem vC (vb:Nat) (d:ay) (m:aa) (p1 p2:Option Addr) (c1 c2:Nat) (w:World) (h:bq w vb d) (hk:m.kind=6) (hs:d.state=3) (he:m.seq=(d.l.length:Int)):
  Calls Tryz.prog 68 #[.pointer (some ⟨vb,0,none⟩),m.v (.slice p1 0 c1) (.slice p2 0 c2)] w fun e w'=>e= .returned (.func (.func 127) #[.pointer (some ⟨vb,0,none⟩)] #[])∧Below w.heap.size w w':=by
 have HH:=Lib.hid h
 have HK:=Lib.hid hk
 have HS:=Lib.hid hs
 have HE:=Lib.hid he
 clear he
 have hmk:∀(fn:Fn) (first cap:Array Value) (w:World),(Instr.makeFunc fn first cap).run Tryz.prog w= .ok (.func fn first cap) w:=fun _ _ _ _=>rfl
 clear h hk hs
 go_enter Tryz.func68,Tryz.ntmps68
 go_wp2_with (first
  |((with_reducible refine ai 73 (.tmp 1) (m.cells (.slice p1 0 c1) (.slice p2 0 c2)) (some 3) ?hgd ?ho ?hd ?hx ?_);(case hgd|ho|hd|hx=>rfl);(intro b0 w0 l0 B0 e0 z0))
  |fail)
 have HB0:=Lib.hid (show Below w.heap.size w w0 from e0.mono l0)
 have HX0:=Lib.hid B0
 have HV0:=Lib.hid (HH.out.below HB0.out)
 clear B0 e0 l0 z0
 refine hb (fun w'=>w'.cell? ⟨b0,0,none⟩=some (.int .i64 6)) ((by rw[←HK.out];exact HX0.out.drew.cell (i:=0) rfl)) fun hHeld=> ?_
 refine hp 0 ?_
 refine hp 1 ?_
 refine hp 2 ?_
 refine hp 3 ?_
 refine hn 4 ?_
 refine hn 5 ?_
 refine hn 6 ?_
 refine hn 7 ?_
 refine hn 8 ?_
 refine hn 9 ?_
 refine hn 10 ?_
 refine hn 11 ?_
 refine hn 12 ?_
 refine hn 13 ?_
 refine hn 14 ?_
 refine hn 15 ?_
 refine hn 16 ?_
 refine hn 17 ?_
 refine hn 18 ?_
 refine hn 19 ?_
 refine hn 20 ?_
 refine hn 21 ?_
 refine hn 22 ?_
 refine hn 23 ?_
 refine hn 24 ?_
 refine hn 25 ?_
 refine hn 26 ?_
 refine hn 27 ?_
 refine hp 28 ?_
 refine hp 29 ?_
 refine hd ?_
 clear hHeld
 obtain⟨w1,hw1⟩:∃x,x=w0.drew:=⟨_,rfl⟩
 have hb1:Below w0.heap.size w0 w1:=by rw[hw1];exact(Below.refl _ _).drew
 have HX1:=Lib.hid (HX0.out.below hb1 HX0.out.lt)
 have HV1:=Lib.hid (HV0.out.below hb1)
 have HB1:=Lib.hid (HB0.out.trans (hb1.mono HB0.out.size))
 rw[←hw1]
 clear hw1 hb1
 go_upto_region 3 with fail
 refine hb (fun w'=>w'.cell? ⟨b0,0,none⟩=some (.int .i64 6)) ((by rw[←HK.out];exact HX1.out.drew.cell (i:=0) rfl)) fun hHeld=> ?_
 refine hp 0 ?_
 refine hp 1 ?_
 refine hp 2 ?_
 refine hp 3 ?_
 refine hn 4 ?_
 refine hn 5 ?_
 refine hn 6 ?_
 refine hn 7 ?_
 refine hn 8 ?_
 refine hn 9 ?_
 refine hp 10 ?_
 refine hp 11 ?_
 refine hn 12 ?_
 refine hn 13 ?_
 refine hn 14 ?_
 refine hn 15 ?_
 refine hn 16 ?_
 refine hn 17 ?_
 refine hn 18 ?_
 refine hn 19 ?_
 refine hp 20 ?_
 refine hp 21 ?_
 refine hd ?_
 clear hHeld
 obtain⟨w2,hw2⟩:∃x,x=w1.drew:=⟨_,rfl⟩
 have hb2:Below w1.heap.size w1 w2:=by rw[hw2];exact(Below.refl _ _).drew
 have HX2:=Lib.hid (HX1.out.below hb2 HX1.out.lt)
 have HV2:=Lib.hid (HV1.out.below hb2)
 have HB2:=Lib.hid (HB1.out.trans (hb2.mono HB1.out.size))
 rw[←hw2]
 clear hw2 hb2
 go_upto_region 5 with fail
 obtain⟨pl,cl,hpl⟩:=aQ HV2.out.rows
 have HPL:=Lib.hid hpl
 clear hpl
 refine hb (fun w'=>w'.cell? ⟨b0,0,none⟩=some (.int .i64 6)∧w'.cell? ⟨vb,6,none⟩=some (.int .i64 3)∧w'.cell? ⟨b0,2,none⟩=some (.int .i64 (d.l.length:Int))∧w'.cell? ⟨vb,52,none⟩=some (.slice pl d.l.length cl)) (⟨(by rw[←HK.out];exact HX2.out.drew.cell (i:=0) rfl),(by rw[←HS.out];exact HV2.out.blk.drew.cell (i:=6) rfl),(by rw[←HE.out];exact HX2.out.drew.cell (i:=2) rfl),(by rw[←HPL.out];exact HV2.out.blk.drew.cell (i:=52) rfl)⟩) fun hHeld=> ?_
 refine hp 0 ?_
 refine hp 1 ?_
 refine hp 2 ?_
 refine hp 3 ?_
 refine hp 4 ?_
 refine hp 5 ?_
 refine hp 6 ?_
 refine hp 7 ?_
 refine hp 8 ?_
 refine hp 9 ?_
 refine hp 10 ?_
 refine hp 11 ?_
 refine hp 12 ?_
 refine hp 13 ?_
 refine hp 14 ?_
 refine hp 15 ?_
 refine hp 16 ?_
 refine hp 17 ?_
 refine hp 18 ?_
 refine hp 19 ?_
 refine hp 20 ?_
 refine hp 21 ?_
 refine hp 22 ?_
 refine hd ?_
 clear hHeld
 obtain⟨w3,hw3⟩:∃x,x=w2.drew:=⟨_,rfl⟩
 have hb3:Below w2.heap.size w2 w3:=by rw[hw3];exact(Below.refl _ _).drew
 have HX3:=Lib.hid (HX2.out.below hb3 HX2.out.lt)
 have HV3:=Lib.hid (HV2.out.below hb3)
 have HB3:=Lib.hid (HB2.out.trans (hb3.mono HB2.out.size))
 rw[←hw3]
 clear hw3 hb3
 go_wp2_with fail
 go_ret
 exact⟨rfl,HB3.out⟩
theorem vD (vb:Nat) (d:ay) (m:aa) (p1 p2:Option Addr) (c1 c2:Nat) (w:World) (h:bq w vb d) (hk:m.kind=8) (hs:d.state=4) (hna:d.na=1) (p:Option Addr) (c:Nat) (hv:d.verd= .slice p 0 c) (ha:m.told.askE=0) (hb:m.told.askL=0):
  Calls Tryz.prog 68 #[.pointer (some ⟨vb,0,none⟩),m.v (.slice p1 0 c1) (.slice p2 0 c2)] w fun e w'=>e= .returned (.func (.func 128) #[.pointer (some ⟨vb,0,none⟩)] #[])∧Below w.heap.size w w':=by
 have HH:=Lib.hid h
 have HK:=Lib.hid hk
 have HS:=Lib.hid hs
 have HA:=Lib.hid ha
 have HL:=Lib.hid hb
 have HNA:=Lib.hid hna
 have HVD:=Lib.hid hv
 clear ha hb hna hv
 have hmk:∀(fn:Fn) (first cap:Array Value) (w:World),(Instr.makeFunc fn first cap).run Tryz.prog w= .ok (.func fn first cap) w:=fun _ _ _ _=>rfl
 clear h hk hs
 go_enter Tryz.func68,Tryz.ntmps68
 go_wp2_with (first
  |((with_reducible refine ai 73 (.tmp 1) (m.cells (.slice p1 0 c1) (.slice p2 0 c2)) (some 3) ?hgd ?ho ?hd ?hx ?_);(case hgd|ho|hd|hx=>rfl);(intro b0 w0 l0 B0 e0 z0))
  |fail)
 have HB0:=Lib.hid (show Below w.heap.size w w0 from e0.mono l0)
 have HX0:=Lib.hid B0
 have HV0:=Lib.hid (HH.out.below HB0.out)
 clear B0 e0 l0 z0
 refine hb (fun w'=>w'.cell? ⟨b0,0,none⟩=some (.int .i64 8)) ((by rw[←HK.out];exact HX0.out.drew.cell (i:=0) rfl)) fun hHeld=> ?_
 refine hp 0 ?_
 refine hp 1 ?_
 refine hp 2 ?_
 refine hp 3 ?_
 refine hn 4 ?_
 refine hn 5 ?_
 refine hn 6 ?_
 refine hn 7 ?_
 refine hn 8 ?_
 refine hn 9 ?_
 refine hn 10 ?_
 refine hn 11 ?_
 refine hn 12 ?_
 refine hn 13 ?_
 refine hn 14 ?_
 refine hn 15 ?_
 refine hn 16 ?_
 refine hn 17 ?_
 refine hn 18 ?_
 refine hn 19 ?_
 refine hn 20 ?_
 refine hn 21 ?_
 refine hn 22 ?_
 refine hn 23 ?_
 refine hn 24 ?_
 refine hn 25 ?_
 refine hn 26 ?_
 refine hn 27 ?_
 refine hp 28 ?_
 refine hp 29 ?_
 refine hd ?_
 clear hHeld
 obtain⟨w1,hw1⟩:∃x,x=w0.drew:=⟨_,rfl⟩
 have hb1:Below w0.heap.size w0 w1:=by rw[hw1];exact(Below.refl _ _).drew
 have HX1:=Lib.hid (HX0.out.below hb1 HX0.out.lt)
 have HV1:=Lib.hid (HV0.out.below hb1)
 have HB1:=Lib.hid (HB0.out.trans (hb1.mono HB0.out.size))
 rw[←hw1]
 clear hw1 hb1
 go_upto_region 3 with fail
 refine hb (fun w'=>w'.cell? ⟨b0,0,none⟩=some (.int .i64 8)) ((by rw[←HK.out];exact HX1.out.drew.cell (i:=0) rfl)) fun hHeld=> ?_
 refine hp 0 ?_
 refine hp 1 ?_
 refine hp 2 ?_
 refine hp 3 ?_
 refine hn 4 ?_
 refine hn 5 ?_
 refine hn 6 ?_
 refine hn 7 ?_
 refine hn 8 ?_
 refine hn 9 ?_
 refine hp 10 ?_
 refine hp 11 ?_
 refine hn 12 ?_
 refine hn 13 ?_
 refine hn 14 ?_
 refine hn 15 ?_
 refine hn 16 ?_
 refine hn 17 ?_
 refine hn 18 ?_
 refine hn 19 ?_
 refine hp 20 ?_
 refine hp 21 ?_
 refine hd ?_
 clear hHeld
 obtain⟨w2,hw2⟩:∃x,x=w1.drew:=⟨_,rfl⟩
 have hb2:Below w1.heap.size w1 w2:=by rw[hw2];exact(Below.refl _ _).drew
 have HX2:=Lib.hid (HX1.out.below hb2 HX1.out.lt)
 have HV2:=Lib.hid (HV1.out.below hb2)
 have HB2:=Lib.hid (HB1.out.trans (hb2.mono HB1.out.size))
 rw[←hw2]
 clear hw2 hb2
 go_upto_region 5 with fail
 refine hb (fun w'=>w'.cell? ⟨b0,0,none⟩=some (.int .i64 8)) ((by rw[←HK.out];exact HX2.out.drew.cell (i:=0) rfl)) fun hHeld=> ?_
 refine hp 0 ?_
 refine hp 1 ?_
 refine hp 2 ?_
 refine hp 3 ?_
 refine hn 4 ?_
 refine hn 5 ?_
 refine hn 6 ?_
 refine hn 7 ?_
 refine hn 8 ?_
 refine hn 9 ?_
 refine hp 10 ?_
 refine hp 11 ?_
 refine hn 12 ?_
 refine hn 13 ?_
 refine hn 14 ?_
 refine hn 15 ?_
 refine hn 16 ?_
 refine hn 17 ?_
 refine hn 18 ?_
 refine hn 19 ?_
 refine hn 20 ?_
 refine hp 21 ?_
 refine hp 22 ?_
 refine hd ?_
 clear hHeld
 obtain⟨w3,hw3⟩:∃x,x=w2.drew:=⟨_,rfl⟩
 have hb3:Below w2.heap.size w2 w3:=by rw[hw3];exact(Below.refl _ _).drew
 have HX3:=Lib.hid (HX2.out.below hb3 HX2.out.lt)
 have HV3:=Lib.hid (HV2.out.below hb3)
 have HB3:=Lib.hid (HB2.out.trans (hb3.mono HB2.out.size))
 rw[←hw3]
 clear hw3 hb3
 go_upto_region 7 with fail
 have hask:=HV3.out.asks
 rw[HNA.out]at hask
 obtain⟨ga,ca,hga⟩:∃g c,d.asks= .slice (some ⟨g,0,none⟩) 1 c:=by
  rcases hask.2 with⟨_,h0⟩|⟨g,cap,cur,hh,_⟩
  ·cases h0
  ·exact⟨g,cap,hh⟩
 rw[hga]at hask
 have HQ:=Lib.hid hask
 have HGA:=Lib.hid hga
 clear hask hga
 refine hb (fun w'=>w'.cell? ⟨b0,0,none⟩=some (.int .i64 8)∧w'.cell? ⟨vb,6,none⟩=some (.int .i64 4)∧w'.cell? ⟨b0,17,none⟩=some (.int .i64 0)∧w'.cell? ⟨b0,18,none⟩=some (.int .i64 0)∧w'.cell? ⟨vb,9,none⟩=some (.slice (some ⟨ga,0,none⟩) 1 ca)∧w'.cell? ⟨vb,54,none⟩=some (.slice p 0 c)∧w'.cell? ⟨ga,0,none⟩=some (.int .i64 0)∧w'.cell? ⟨ga,1,none⟩=some (.int .i64 0)) (⟨(by rw[←HK.out];exact HX3.out.drew.cell (i:=0) rfl),(by rw[←HS.out];exact HV3.out.blk.drew.cell (i:=6) rfl),(by rw[←HA.out];exact HX3.out.drew.cell (i:=17) rfl),(by rw[←HL.out];exact HX3.out.drew.cell (i:=18) rfl),(by rw[←HGA.out];exact HV3.out.blk.drew.cell (i:=9) rfl),(by rw[←HVD.out];exact HV3.out.blk.drew.cell (i:=54) rfl),(by simpa using World.ownsRow.cellAt HQ.out 0 (by decide)),(by simpa using World.ownsRow.cellAt HQ.out 1 (by decide))⟩) fun hHeld=> ?_
 refine hp 0 ?_
 refine hp 1 ?_
 refine hp 2 ?_
 refine hp 3 ?_
 refine hp 4 ?_
 refine hp 5 ?_
 refine hp 6 ?_
 refine hp 7 ?_
 refine hp 8 ?_
 refine hp 9 ?_
 refine hp 10 ?_
 refine hp 11 ?_
 refine hp 12 ?_
 refine hp 13 ?_
 refine hp 14 ?_
 refine hp 15 ?_
 refine hp 16 ?_
 refine hp 17 ?_
 refine hp 18 ?_
 refine hp 19 ?_
 refine hp 20 ?_
 refine hp 21 ?_
 refine hp 22 ?_
 refine hp 23 ?_
 refine hp 24 ?_
 refine hp 25 ?_
 refine hp 26 ?_
 refine hp 27 ?_
 refine hp 28 ?_
 refine hp 29 ?_
 refine hp 30 ?_
 refine hd ?_
 clear hHeld
 obtain⟨w4,hw4⟩:∃x,x=w3.drew:=⟨_,rfl⟩
 have hb4:Below w3.heap.size w3 w4:=by rw[hw4];exact(Below.refl _ _).drew
 have HX4:=Lib.hid (HX3.out.below hb4 HX3.out.lt)
 have HV4:=Lib.hid (HV3.out.below hb4)
 have HB4:=Lib.hid (HB3.out.trans (hb4.mono HB3.out.size))
 rw[←hw4]
 clear hw4 hb4
 go_wp2_with fail
 go_ret
 exact⟨rfl,HB4.out⟩
theorem xY (d:Nat) (fn:Fn) (first cap:Array Value) (w:World):(Op.equalIn (d+1) 85 (.func fn first cap) .nilFunc).run Tryz.prog w= .ok false w:=by
 simp[Op.equalIn,run_underlying Tryz.underlying85]
theorem CU (fn:Fn) (first cap:Array Value) (w:World):(binOp .eql 85 (.func fn first cap) .nilFunc).run Tryz.prog w= .ok (.bool false) w:=by
 simp only[binOp]
 simp[Op.equal,Op.maxDepth,xY 9999 fn first cap w]
theorem li (F:Nat) (vb:Nat) (d:ay) (m:aa) (Q:ay→Prop) (hF:F=125∨F=126∨F=127∨F=128) (p1 p2:Option Addr) (c1 c2:Nat) (w:World) (h:bq w vb d) (hok:aM m=true) (htm:bc m) (hto:m.told=ar.zero) (hno:m.nonce=d.nonce) (hk:m.kind≠10)
  (hS:∀wx:World,bq wx vb d→Calls Tryz.prog 68 #[.pointer (some ⟨vb,0,none⟩),m.v (.slice p1 0 c1) (.slice p2 0 c2)] wx fun e w'=>e= .returned (.func (.func F) #[.pointer (some ⟨vb,0,none⟩)] #[])∧Below wx.heap.size wx w')
  (hD:∀wx:World,bq wx vb d→Calls Tryz.prog F #[.pointer (some ⟨vb,0,none⟩),m.v (.slice p1 0 c1) (.slice p2 0 c2)] wx fun e w'=>e= .returned (.int .i64 0)∧∃d',bW wx w' vb d d'∧Q d'):
  Calls Tryz.prog 29 #[.pointer (some ⟨vb,0,none⟩),m.v (.slice p1 0 c1) (.slice p2 0 c2)] w fun e w'=>e= .returned (.int .i64 0)∧∃d',bW w w' vb d d'∧Q d':=by
 have HH:=Lib.hid h
 have HOK:=Lib.hid hok
 have HTM:=Lib.hid htm
 have HTO:=Lib.hid hto
 have HNO:=Lib.hid hno
 have HST:=Lib.hid hS
 have HD:=Lib.hid hD
 have hkk:(m.kind==10)=false:=beq_eq_false_iff_ne.2 hk
 have hfn:=CU
 clear h hok htm hto hno hS hD hk
 go_enter Tryz.func29,Tryz.ntmps29
 go_upto_region 1 with(first
  |((with_reducible refine ai 73 (.tmp 1) (m.cells (.slice p1 0 c1) (.slice p2 0 c2)) (some 3) ?hgd ?ho ?hd ?hx ?_);(case hgd|ho|hd|hx=>rfl);(intro b0 w0 l0 B0 e0 z0))
  |fail)
 have HB0:=Lib.hid (show Below w.heap.size w w0 from e0.mono l0)
 have HX0:=Lib.hid B0
 have HV0:=Lib.hid (HH.out.below HB0.out)
 have HL0:=Lib.hid (show w.heap.size≤b0 from l0)
 clear B0 e0 l0 z0
 go_wp2_with fail
 refine(dV vb d _ HV0.out).mono ?_
 rintro e w' ⟨rfl,rfl⟩
 go_wp2_with (first
  |((with_reducible refine ag 73 (.tmp 3) b0 0 (m.cells (.slice p1 0 c1) (.slice p2 0 c2)) _ (some 11) (HX0.out.range) Tryz.underlying73 rfl ap ?hg ?ho ?hds ?hx ?_);(case ho|hg|hds|hx=>rfl))
  |fail)
 refine(dt m _ _ _ (by rw[HTO.out];exact .inl ⟨rfl,_,_,rfl⟩) (by rw[HTO.out];exact .inl ⟨rfl,_,_,rfl⟩) HTM.out).mono ?_
 rintro e w1 ⟨he,hb1⟩
 rw[gn HOK.out]at he
 subst he
 have HX1:=Lib.hid (HX0.out.below hb1 HX0.out.lt)
 have HV1:=Lib.hid (HV0.out.below hb1)
 have HB1:=Lib.hid (HB0.out.trans (hb1.mono HB0.out.size))
 clear hb1
 have x0:=HX1.out.cell (i:=0) rfl
 go_upto_region 7 with fail
 clear x0
 refine hb (fun w'=>w'.cell? ⟨b0,3,none⟩=some (.string d.nonce)∧w'.cell? ⟨vb,8,none⟩=some (.string d.nonce)) (⟨(by rw[←HNO.out];exact HX1.out.drew.cell (i:=3) rfl),HV1.out.blk.drew.cell (i:=8) rfl⟩) fun hHeld=> ?_
 refine hp 0 ?_
 refine hp 1 ?_
 refine hp 2 ?_
 refine hp 3 ?_
 refine hp 4 ?_
 refine hp 5 ?_
 refine hp 6 ?_
 refine hp 7 ?_
 refine hp 8 ?_
 refine hd ?_
 clear hHeld
 obtain⟨w2,hw2⟩:∃y,y=w1.drew:=⟨_,rfl⟩
 have hb2:Below w1.heap.size w1 w2:=by rw[hw2];exact(Below.refl _ _).drew
 have HX2:=Lib.hid (HX1.out.below hb2 HX1.out.lt)
 have HV2:=Lib.hid (HV1.out.below hb2)
 have HB2:=Lib.hid (HB1.out.trans (hb2.mono HB1.out.size))
 rw[←hw2]
 clear hw2 hb2
 go_wp2_with (first
  |((with_reducible refine ag 73 (.tmp 3) b0 0 (m.cells (.slice p1 0 c1) (.slice p2 0 c2)) _ (some 32) (HX2.out.range) Tryz.underlying73 rfl ap ?hg ?ho ?hds ?hx ?_);(case ho|hg|hds|hx=>rfl))
  |fail)
 refine(HST.out _ HV2.out).mono ?_
 rintro e w3 ⟨rfl,hb3⟩
 have HX3:=Lib.hid (HX2.out.below hb3 HX2.out.lt)
 have HV3:=Lib.hid (HV2.out.below hb3)
 have HB3:=Lib.hid (HB2.out.trans (hb3.mono HB2.out.size))
 clear hb3
 rcases hF with rfl|rfl|rfl|rfl
 all_goals
  go_wp2_with (first
   |((with_reducible refine ag 73 (.tmp 3) b0 0 (m.cells (.slice p1 0 c1) (.slice p2 0 c2)) _ (some 37) (HX3.out.range) Tryz.underlying73 rfl ap ?hg ?ho ?hds ?hx ?_);(case ho|hg|hds|hx=>rfl))
   |fail)
  refine(HD.out _ HV3.out).mono ?_
  rintro e w4 ⟨rfl,d',hv,hq⟩
  have V4:=Lib.hid (bW.ahead HB3.out hv)
  have HQ:=Lib.hid hq
  clear hv hq
  go_wp2_with fail
  go_ret
  exact⟨rfl,d',V4.out,HQ.out⟩
end Go.Proofs.YtngiibgdgenidaaGreat
