/- The documents' volume (chapter 26): a closing is sealed, where nothing was written. Walk of Few of chapter 24 at one call. The documents' volume (chapter 26) does a call: an epoch is closed in which nothing was written. What a disk shows behind a closing (chapters 25, 26). -/
import Derived.Test.YtgimkmclgjfddaaGreatQ22
import Derived.Test.YtgimkmclgjfddaaGreatQ15
import Derived.Test.YtgimkmclgjfddaaGreatQ18
import Derived.Test.YtgimkmclgjfddaaGreatQ21
import Derived.Test.YtgimkmclgjfddaaGreatQ2
import Derived.Deep.DeepAppendWide
import Derived.Deep.RegionWith
import Derived.Deep.QuietTactic
import Derived.BigQuiet
import Derived.Test.YtgimkmclgjfddaaGreatQ19
set_option linter.unusedSimpArgs false
set_option linter.unusedVariables false
set_option maxRecDepth 100000
set_option maxHeartbeats 4000000
namespace Go.Proofs.YtgimkmclgjfddaaGreat
open Go Go.RowKit
theorem BW (w:World):(zeroValue 25).run Tryz.prog w= .ok (.agg Rec.zero.cells.toArray) w:=by kernel_rfl
theorem ql:(Tryz.prog.info? 162).map (fun i=>(i.zero,i.size,i.bytes))=some (some (.agg (dq.cells ⟨0,0,0,false,⟨#[]⟩⟩).toArray),5,48):=by kernel_rfl
theorem ny:(Tryz.prog.info? 3).map (fun i=>(i.zero,i.size,i.bytes))=some (some (.int .i64 0),1,8):=by kernel_rfl
theorem zA (x:Rec) (t:ByteArray):Tryz.prog.built 27 [(0, .agg x.cells.toArray),(1, .string t)]=some (aH.cells ⟨x,t⟩).toArray:=by kernel_rfl
theorem xr:Tryz.prog.built 162 [(1, .int .i64 (-1))]=some (dq.cells ⟨0,-1,0,false,⟨#[]⟩⟩).toArray:=by kernel_rfl
structure Fg (r:dj) (l0:List Rec) (R0:Rec) (KY:ByteArray):Prop where
 recs:r.recs=l0++[R0]
 kind:R0.kind=1
 ok:∀s:ByteArray,s.size=32→am {R0 with count:=0,root:=s}=true
 key:r.keys.getLast?=some KY
 ksz:KY.size=32
 none:∀x,x∈r.cells→x.slot<0
 nc:r.cells.length≤1048575
 ns:r.sealed.length≤1048575
 nh:r.held.length≤1048575
 nk:r.keys.length≤1048575
 nr:r.recs.length≤1048576
 tame:gx r.sealed
 last:(cE r.sealed).size=32
 name:R0.name.size≤1048576
 ep:Fits R0.epoch
 f0:0≤r.first
 f1:r.first≤4294967295
 g0:0≤r.sup.gen
 g1:r.sup.gen≤1099511627776
theorem u6 (i:bY) (r:dj) (l0:List Rec) (R0:Rec) (KY:ByteArray) (w:World) (h:bN w i r) (hs:Fg r l0 R0 KY):
  Calls Tryz.prog 75 #[.pointer (some ⟨i.rb,0,none⟩)] w fun e w'=>e= .returned (.tuple #[])∧∃(i':bY) (s t nk:ByteArray),aj s (dm [])∧aj nk (eJ KY.data.toList [110,101,120,116] [])∧t.size=32∧
   i'.rb=i.rb∧cS w w' i i' {r with recs:=l0++[{R0 with count:=0,root:=s}],held:=r.held++[(r.sealed.length:Int)],cells:=r.cells++[⟨0,-1,0,false,⟨#[]⟩⟩],sealed:=r.sealed++[⟨{R0 with count:=0,root:=s},t⟩],keys:=r.keys++[nk],sup:=lT {r with recs:=l0++[{R0 with count:=0,root:=s}],cells:=r.cells++[⟨0,-1,0,false,⟨#[]⟩⟩]}}:=by
 have H0:=Lib.hid h
 have HS:=Lib.hid hs
 obtain⟨n,hnl⟩:∃n,l0.length=n:=⟨_,rfl⟩
 have hrl:r.recs.length=n+1:=by rw[hs.recs,List.length_append,hnl];rfl
 have hx0:r.recs[n]?=some R0:=by rw[hs.recs,←hnl,List.getElem?_append_right (Nat.le_refl _)];simp
 obtain⟨g,cap,hlv,hgl,_⟩:=kz lQ h.mdl.recs hx0 (by omega)
 rw[hrl]at hlv
 have HLV:=Lib.hid hlv
 have HNL:=Lib.hid hnl
 have HRL:=Lib.hid hrl
 have HM:=Lib.hid (fun(wx:World) (hx:bN wx i r)=>show wx.cell? ⟨i.rb,0,none⟩=some (.pointer (some ⟨i.mb,0,none⟩))∧wx.cell? ⟨i.mb,6,none⟩=some (.slice (some ⟨g,0,none⟩) (n+1) cap)∧wx.rangeAt g (n*8) R0.cells from by
  obtain⟨g',cap',he,_,hr⟩:=kz lQ hx.mdl.recs hx0 (by omega)
  rw[hrl,hlv]at he
  injection he with he _ _
  injection he with he
  injection he with he _ _
  subst he
  exact⟨hx.blk.cell (i:=0) rfl,by rw[←hlv];exact hx.mdl.blk.cell (i:=6) rfl,hr⟩)
 have HG:=Lib.hid hgl
 have hnb:n≤1048576:=by have:=hs.nr;omega
 have hw1:IntKind.i64.wrap ((n:Int)+1-1)=(n:Int):=by rw[IntWalk.i64_in _ (by omega)];omega
 have hw2:IntKind.i64.wrap (n:Int)=(n:Int):=IntWalk.i64_in _ (by omega)
 have hlt1:(n:Int)<(n:Int)+1:=by omega
 have HC0:=Lib.hid (show R0.cells[0]?=some (.int .i64 1)from by rw[←hs.kind];rfl)
 clear h hs hnl hrl hx0 hlv hgl
 go_enter Tryz.func75,Tryz.ntmps75
 go_upto_region 0 with fail
 refine hb (fun wx=>wx.cell? ⟨i.rb,0,none⟩=some (.pointer (some ⟨i.mb,0,none⟩))∧wx.cell? ⟨i.mb,6,none⟩=some (.slice (some ⟨g,0,none⟩) (n+1) cap)∧wx.rangeAt g (n*8) R0.cells) (HM.out _ (H0.out.below (Below.refl _ _).drew)) fun hHeld=> ?_
 obtain⟨wd,hdr⟩:∃wz,wz=w.drew:=⟨_,rfl⟩
 have hbz:Below w.heap.size w wd:=by rw[hdr];exact(Below.refl _ _).drew
 have HBEd:=Lib.hid hbz
 have HRd:=Lib.hid (H0.out.below hbz)
 rw[←hdr]
 rw[←hdr]at hHeld
 clear hdr hbz
 refine hp 0 ?_
 refine hp 1 ?_
 refine hp 2 ?_
 refine hp 3 ?_
 refine hp 4 ?_
 refine hp 5 ?_
 refine hp 6 ?_
 refine hp 7 ?_
 refine hp 8 ?_
 refine hp 9 ?_
 refine hp 10 ?_
 refine hp 11 ?_
 refine hp 12 ?_
 refine hp 13 ?_
 refine hp 14 ?_
 refine hp 15 ?_
 refine hp 16 ?_
 refine hp 17 ?_
 refine hp 18 ?_
 refine hl 19 25 g (n*8) (R0.cells) (fun w h=>h.2.2) Tryz.underlying25 aI ?_
 refine hc 20 fun K hK=> ?_
 refine kq 25 _ BW rfl ?_
 intro b2 we le Be ee ze
 have HL2:=Lib.hid (Nat.le_trans HBEd.out.size le)
 have HXe:=Lib.hid Be
 have hbe:Below wd.heap.size wd we:=ee.mono le
 have HBEe:=Lib.hid (HBEd.out.trans (hbe.mono HBEd.out.size))
 have HRe:=Lib.hid (HRd.out.below hbe)
 clear Be ee ze le hbe
 refine hK.out _ _ (HM.out _ HRe.out) fun _=> ?_
 clear hK K hHeld
 rename_i hHeld
 (try go_frame)
 refine hc 21 fun K hK=> ?_
 refine gi 25 (.tmp 2) (.tmp 29) b2 Rec.zero.cells R0.cells 25 HXe.out rfl aI (Rec.cells_one1 _) rfl rfl rfl ?_
 intro wa Ba oa
 have HXa:=Lib.hid Ba
 have HBEa:=Lib.hid (oa.below HBEe.out HL2.out)
 have HRa:=Lib.hid (H0.out.below HBEa.out)
 clear Ba oa
 refine hK.out _ _ (HM.out _ HRa.out) fun _=> ?_
 clear hK K hHeld
 rename_i hHeld
 (try go_frame)
 refine hd ?_
 clear hHeld
 have y0:=HXa.out.cell HC0.out
 go_upto_region 2 with fail
 have y1:wa.cell? ⟨b2,1,none⟩=some (.int .i64 R0.epoch):=HXa.out.cell (i:=1) rfl
 go_wp2_with fail
 refine(qj i r R0.epoch _ HRa.out HS.out.none (by have:=HS.out.nc;omega)).mono ?_
 rintro e wb ⟨rfl,hbb⟩
 have HXb:=Lib.hid (HXa.out.below hbb HXa.out.lt)
 have HBEb:=Lib.hid (HBEa.out.trans (hbb.mono HBEa.out.size))
 have HRb:=Lib.hid (HRa.out.below hbb)
 clear hbb y0 y1
 go_wp2_with fail
 refine(qk _).mono ?_
 rintro e w' ⟨rfl,rfl⟩
 go_wp2_with fail
 refine(sN _).mono ?_
 rintro e wc ⟨s,rfl,ts,hbc⟩
 have HTS:=Lib.hid ts
 have HXc:=Lib.hid (HXb.out.below hbc HXb.out.lt)
 have HBEc:=Lib.hid (HBEb.out.trans (hbc.mono HBEb.out.size))
 have HRc:=Lib.hid (HRb.out.below hbc)
 clear hbc ts
 obtain⟨R1,hR1⟩:∃R1,({R0 with count:=0,root:=s}:Rec)=R1:=⟨_,rfl⟩
 have HR1:=Lib.hid hR1
 have HC1:=Lib.hid (show(R0.cells.set 3 (.int .i64 0)).set 6 (.string s)=R1.cells from by rw[←hR1];rfl)
 have HC10:=Lib.hid (show R1.cells[0]?=some (.int .i64 1)from by rw[←hR1];exact HC0.out)
 clear hR1
 have y3:=HXc.out.cell (i:=3) rfl
 have z3:=HXc.out.free 3
 have y6:=HXc.out.cell (i:=6) rfl
 have z6:=HXc.out.free 6
 go_upto_region 4 with fail
 obtain⟨wf,hwf⟩:∃wz,wz=(wc.setCell ⟨b2,3,none⟩ (.int .i64 0)).setCell ⟨b2,6,none⟩ (.string s):=⟨_,rfl⟩
 have HXf:=Lib.hid (show ab wf b2 R1.cells 25 from by rw[hwf,←HC1.out];exact(HXc.out.set 3 _).set 6 _)
 have HBEf:=Lib.hid (show Below w.heap.size w wf from by rw[hwf];exact(HBEc.out.setCell (p:=⟨b2,3,none⟩) (by show w.heap.size≤b2;exact HL2.out) _).setCell (p:=⟨b2,6,none⟩) (by show w.heap.size≤b2;exact HL2.out) _)
 have HRf:=Lib.hid (H0.out.below HBEf.out)
 rw[←hwf]
 clear hwf y3 z3 y6 z6
 refine hb (fun wx=>wx.cell? ⟨i.rb,0,none⟩=some (.pointer (some ⟨i.mb,0,none⟩))∧wx.cell? ⟨i.mb,6,none⟩=some (.slice (some ⟨g,0,none⟩) (n+1) cap)∧wx.rangeAt b2 0 R1.cells) (⟨(HM.out _ (HRf.out.below (Below.refl _ _).drew)).1,(HM.out _ (HRf.out.below (Below.refl _ _).drew)).2.1,HXf.out.drew.range⟩) fun hHeld=> ?_
 obtain⟨wg,hdr⟩:∃wz,wz=wf.drew:=⟨_,rfl⟩
 have hbz:Below wf.heap.size wf wg:=by rw[hdr];exact(Below.refl _ _).drew
 have HBEg:=Lib.hid (HBEf.out.trans (hbz.mono HBEf.out.size))
 have HRg:=Lib.hid (HRf.out.below hbz)
 have HXg:=Lib.hid (HXf.out.below hbz HXf.out.lt)
 rw[←hdr]
 rw[←hdr]at hHeld
 clear hdr hbz
 refine hp 0 ?_
 refine hp 1 ?_
 refine hp 2 ?_
 refine hp 3 ?_
 refine hp 4 ?_
 refine hp 5 ?_
 refine hp 6 ?_
 refine hp 7 ?_
 refine hp 8 ?_
 refine hp 9 ?_
 refine hp 10 ?_
 refine hp 11 ?_
 refine hp 12 ?_
 refine hp 13 ?_
 refine hp 14 ?_
 refine hp 15 ?_
 refine hp 16 ?_
 refine hp 17 ?_
 refine hl 18 25 b2 0 (R1.cells) (fun w h=>h.2.2) Tryz.underlying25 aI ?_
 refine hp 19 ?_
 refine hc 20 fun K hK=> ?_
 have hrow:wg.ownsRow 0 25 8 (.slice (some ⟨g,0,none⟩) (n+1) cap) (n+1) (r.recs.flatMap Rec.cells):=by have:=HRg.out.mdl.recs;rw[HLV.out,HRL.out]at this;exact this
 refine wp_store_mid 25 (.tmp 63) (.tmp 62) rfl g (n*8) R1.cells.toArray rfl rfl (BJ hrow (by show n*8+8≤(n+1)*8;omega) (by omega)) (by simpa using aI) (all_oneCell_toArray (Rec.cells_one1 R1)) ?_
 obtain⟨wh,hwh⟩:∃wz,wz=wg.setCells g (n*8) R1.cells:=⟨_,rfl⟩
 have hput:=FP lQ hrow n R1 (by rw[HRL.out];omega)
 rw[←hwh]at hput
 rw[show r.recs.set n R1=l0++[R1]from by rw[HS.out.recs,←HNL.out,List.set_append_right _ _ (Nat.le_refl _)];simp]at hput
 have hgt:Ty wg g 25:=ap hrow rfl
 have HT4:=Lib.hid (show cS wg wh i i {r with recs:=l0++[R1]} from HRg.out.put_mdl (lv:=i.lv) (hput.2.mono (fun x hx=>by simp at hx;subst hx;simp[HLV.out,Value.ownBlock])) ⟨hput.2.blk HRg.out.mdl.blk (fun hm=>by simp at hm;exact absurd ((hm ▸ HRg.out.mdl.blk.ty).eq hgt) (by decide)),by rw[HLV.out,List.length_append,HNL.out];exact hput.1,ak HRg.out.mdl.vers hput.2 (fun k hk hm=>by simp at hm;subst hm;exact absurd ((ap HRg.out.mdl.vers hk).eq hgt) (by decide))⟩ (.inl rfl))
 have HXh:=Lib.hid (hput.2.blk HXg.out (fun hm=>by simp at hm;have:=HG.out;have:=HL2.out;omega))
 have HT5:=Lib.hid (HT4.out.ahead HBEg.out)
 show K _ (wg.setCells g (n*8) R1.cells)
 rw[←hwh]
 clear hwh hput hgt hrow
 refine hK.out _ _ (⟨HT4.out.at'.blk.cell (i:=0) rfl,(by rw[←HLV.out];exact HT4.out.at'.mdl.blk.cell (i:=6) rfl),HXh.out.range⟩) fun _=> ?_
 clear hK K hHeld
 rename_i hHeld
 (try go_frame)
 refine hd ?_
 clear hHeld
 go_upto_region 5 with fail
 obtain⟨ks,hks⟩:∃ks,r.keys=ks++[KY]:=by
  have h1:=HS.out.key
  exact List.getLast?_eq_some_iff.1 h1
 obtain⟨m,hml⟩:∃m,ks.length=m:=⟨_,rfl⟩
 have hkl:r.keys.length=m+1:=by rw[hks,List.length_append,hml];rfl
 have hmb:m≤1048576:=by have:=HS.out.nk;omega
 have hw3:IntKind.i64.wrap ((m:Int)+1-1)=(m:Int):=by rw[IntWalk.i64_in _ (by omega)];omega
 have hw4:IntKind.i64.wrap (m:Int)=(m:Int):=IntWalk.i64_in _ (by omega)
 have hlt2:(m:Int)<(m:Int)+1:=by omega
 obtain⟨wi,hwi⟩:∃wi,wi=wh.drew:=⟨_,rfl⟩
 have hbi:Below wh.heap.size wh wi:=by rw[hwi];exact(Below.refl _ _).drew
 have HTi:=Lib.hid (HT5.out.below hbi)
 have HXi:=Lib.hid (HXh.out.below hbi HXh.out.lt)
 obtain⟨gk,ck,zk,hkv,_,_,hkB⟩:=cY HTi.out.at'.keys (by show 0<r.keys.length;omega)
 have hkv':i.kv= .slice (some ⟨gk,0,none⟩) (m+1) ck:=by rw[←hkl];exact hkv
 have hkc:wi.cell? ⟨gk,m,none⟩=some (.string KY):=hkB.cell (by
  have h1:(r.keys.map Value.string)[m]?=some (.string KY):=by rw[hks,←hml,List.map_append,List.getElem?_append_right (by simp)];simp
  rw[List.getElem?_append_left (List.getElem?_eq_some_iff.1 h1).1]
  exact h1)
 refine hb (fun wx=>wx.cell? ⟨i.rb,12,none⟩=some (.slice (some ⟨gk,0,none⟩) (m+1) ck)∧wx.cell? ⟨gk,m,none⟩=some (.string KY)) ((by rw[←hwi];exact⟨(by rw[←hkv'];exact HTi.out.at'.blk.cell (i:=12) rfl),hkc⟩)) fun hHeld=> ?_
 rw[←hwi]
 rw[←hwi]at hHeld
 have HKV:=Lib.hid hkv'
 have HKL:=Lib.hid hkl
 clear hwi hbi hkB hkv hkv' hkc hks hml hkl
 refine hp 0 ?_
 refine hp 1 ?_
 refine hp 2 ?_
 refine hp 3 ?_
 refine hp 4 ?_
 refine hp 5 ?_
 refine hp 6 ?_
 refine hp 7 ?_
 refine hp 8 ?_
 refine hp 9 ?_
 refine hp 10 ?_
 refine hp 11 ?_
 refine hp 12 ?_
 refine hd ?_
 clear hHeld
 go_upto_region 6 with fail
 clear hw3 hw4 hlt2 hmb
 obtain⟨ns,hns⟩:∃ns,r.sealed.length=ns:=⟨_,rfl⟩
 obtain⟨ps,cs,hsv⟩:=aT HTi.out.at'.sealed
 have HSV:=Lib.hid (show i.sv= .slice ps ns cs from by rw[←hns];exact hsv)
 have HNS:=Lib.hid hns
 obtain⟨wj,hwj⟩:∃wj,wj=wi.drew:=⟨_,rfl⟩
 have hbj:Below wi.heap.size wi wj:=by rw[hwj];exact(Below.refl _ _).drew
 have HTj:=Lib.hid (HTi.out.below hbj)
 have HXj:=Lib.hid (HXi.out.below hbj HXi.out.lt)
 clear hns hsv
 refine hb (fun wx=>wx.cell? ⟨i.rb,3,none⟩=some (.slice ps ns cs)∧wx.rangeAt b2 0 R1.cells) ((by rw[←hwj];exact⟨(by rw[←HSV.out];exact HTj.out.at'.blk.cell (i:=3) rfl),HXj.out.range⟩)) fun hHeld=> ?_
 rw[←hwj]
 rw[←hwj]at hHeld
 clear hwj hbj
 refine hp 0 ?_
 refine hp 1 ?_
 refine hp 2 ?_
 refine hp 3 ?_
 refine hp 4 ?_
 refine hp 6 ?_
 refine hp 7 ?_
 refine hp 8 ?_
 refine hp 9 ?_
 refine hp 10 ?_
 refine hl 11 25 b2 0 (R1.cells) (fun w h=>h.2) Tryz.underlying25 aI ?_
 refine hc 5 fun K hK=> ?_
 go_simp
 refine(zl (.slice ps ns cs) r.sealed _ (de.own (n:=ns) (by have:=HTj.out.at'.sealed;rw[HSV.out]at this;rw[←HNS.out];rw[←HNS.out]at this;exact this) HNS.out.symm) (by have:=HS.out.ns;omega)).mono ?_
 rintro e wk ⟨rfl,hbk⟩
 have HTk:=Lib.hid (HTj.out.below hbk)
 have HXk:=Lib.hid (HXj.out.below hbk HXj.out.lt)
 clear hbk
 (try go_wp2_with fail)
 refine hK.out _ _ (⟨(by rw[←HSV.out];exact HTk.out.at'.blk.cell (i:=3) rfl),HXk.out.range⟩) fun _=> ?_
 clear hK K hHeld
 rename_i hHeld
 (try go_frame)
 refine hc 12 fun K hK=> ?_
 go_simp
 have t1:R1.root.size≤1048576:=by rw[←HR1.out];show s.size≤1048576;rw[HTS.out.size,bK];omega
 have t2:R1.name.size≤1048576:=by rw[←HR1.out];exact HS.out.name
 have t3:Fits R1.epoch:=by rw[←HR1.out];exact HS.out.ep
 have t4:Fits (ns:Int):=by have:=HS.out.ns;have:=HNS.out;unfold Fits;omega
 have t5:(cE r.sealed).size≤1048576:=by rw[HS.out.last];omega
 have HTG:=Lib.hid (yU KY (cE r.sealed) (ns:Int) R1 wk t1 t2 t3 t4 t5)
 clear t1 t2 t3 t4 t5
 refine HTG.out.mono ?_
 rintro e wl ⟨he,hbl⟩
 obtain⟨t,rfl,tt⟩:=he.yes ⟨HS.out.ksz,HS.out.last,by omega,by have:=HS.out.ns;have:=HNS.out;omega,by rw[←HR1.out];exact HS.out.ok s (by rw[HTS.out.size,bK])⟩
 have HTT:=Lib.hid (show t.size=32 from by rw[tt.size,fK])
 have HTl:=Lib.hid (HTk.out.below hbl)
 have HXl:=Lib.hid (HXk.out.below hbl HXk.out.lt)
 clear hbl he tt
 (try go_wp2_with fail)
 refine hK.out _ _ (⟨(by rw[←HSV.out];exact HTl.out.at'.blk.cell (i:=3) rfl),HXl.out.range⟩) fun _=> ?_
 clear hK K hHeld
 rename_i hHeld
 (try go_frame)
 refine hp 13 ?_
 refine hp 14 ?_
 refine hp 15 ?_
 refine hp 16 ?_
 refine hp 17 ?_
 refine hd ?_
 clear hHeld
 go_upto_region 7 with fail
 have HMwl:=Lib.hid HTl.out.at'.blk
 have HOwl:=Lib.hid HTl.out.at'.held
 go_cut []from 92 to 105 (fun wx=>fc wl wx i.rb 4 (dk i r.root r.sup) 133 3 1 i.hv (r.held.length+1) ((r.held++[(ns:Int)]).map (.int .i64)))
 case first=>
  refine hb (fun wx=>wx.cell? ⟨i.rb,3,none⟩=some (.slice ps ns cs)) ((by rw[←HSV.out];exact HMwl.out.drew.cell (i:=3) rfl)) fun hHeld=> ?_
  obtain⟨wd,hwd⟩:∃wd,wd=wl.drew:=⟨_,rfl⟩
  have hbd:Below wl.heap.size wl wd:=by rw[hwd];exact(Below.refl _ _).drew
  have HTwl:=Lib.hid (aa.refl (i.rb::(i.hv).ownBlock.toList) wl)
  have HMwd:=Lib.hid (HMwl.out.below hbd HMwl.out.lt)
  have HOwd:=Lib.hid (own_below hbd HOwl.out)
  have HTwd:=Lib.hid (HTwl.out.trans (aa.of_below hbd (Nat.le_refl _)))
  rw[←hwd]
  rw[←hwd]at hHeld
  clear hwd hbd
  obtain⟨i0,hi,hz0,hz1,hz2⟩:=info_parts ny
  refine hp 0 ?_
  refine hp 1 ?_
  refine hp 2 ?_
  refine hp 3 ?_
  refine hp 5 ?_
  refine hp 6 ?_
  refine hp 7 ?_
  refine hp 8 ?_
  refine hp 9 ?_
  refine wI 4 10 (fun K hK=> ?_) (fun K hK=> ?_)
  ·have c4:wd.cell? ⟨i.rb,4,none⟩=some (i.hv):=HMwd.out.cell (i:=4) rfl
   go_simp
   clear c4
   (try go_wp2_with fail)
   refine hK.out _ _ ((by rw[←HSV.out];exact HMwd.out.cell (i:=3) rfl)) fun _=> ?_
   clear hK K hHeld
   rename_i hHeld
   (try go_frame)
   refine hc 10 fun K hK=> ?_
   refine dC 70 3 1 _ [.int .i64 (ns:Int)] (.int .i64 0) 1 8 Tryz.underlying70 ny (by omega) (by omega) rfl (by kernel_rfl) ?_
   intro g8 w8 l8 B8 e8 z8
   have hb8:Below wd.heap.size wd w8:=e8.mono l8
   have HG8:=Lib.hid B8
   have HMw8:=Lib.hid (HMwd.out.below hb8 HMwd.out.lt)
   have HOw8:=Lib.hid (own_below hb8 HOwd.out)
   have HTw8:=Lib.hid (HTwd.out.trans (aa.of_below hb8 (Nat.le_refl _)))
   clear B8 e8 z8 hb8 l8
   (try go_wp2_with fail)
   refine hK.out _ _ ((by rw[←HSV.out];exact HMw8.out.cell (i:=3) rfl)) fun _=> ?_
   clear hK K hHeld
   rename_i hHeld
   (try go_frame)
   refine hc 11 fun K hK=> ?_
   refine df _ _ 70 rfl i0 (.int .i64 0) 8 Tryz.underlying70 hi hz0 hz1 hz2 rfl (by decide) rfl HOw8.out ⟨g8,0,none⟩ 1 1 [.int .i64 (ns:Int)] rfl rfl (cd HG8.out) (by intro v hv;simp at hv;subst hv;rfl) (by have:=HS.out.nh;show r.held.length+1≤maxLen;unfold maxLen;omega) (by have:=HS.out.nh;show(r.held.length+1)*8≤140737488355328;omega) (Nat.zero_le _) ?_
   intro v' w9 own9 grow9' near9'
   have grow9:w8.grownBy w9 (i.hv).ownBlock:=grow9'
   have near9:dY w8 (i.hv).ownBlock v'.ownBlock:=near9'
   clear grow9' near9'
   obtain⟨p9,q9,hsh⟩:=aT own9
   subst hsh
   have HMw9:=Lib.hid (HMw8.out.grown grow9 (fun e=>absurd (show 3=133 from(ap HOw8.out e.symm).eq HMw8.out.ty) (by decide)))
   have HO9:=Lib.hid own9
   have HNE:=Lib.hid (near9.back HTw8.out.size)
   have HTw9:=Lib.hid (HTw8.out.trans (aa.of_grown grow9 (fun k hk=>by simp[hk])))
   clear own9 grow9 near9
   (try go_wp2_with fail)
   refine hK.out _ _ ((by rw[←HSV.out];exact HMw9.out.cell (i:=3) rfl)) fun _=> ?_
   clear hK K hHeld
   rename_i hHeld
   (try go_frame)
   refine hp 12 ?_
   refine hp 13 ?_
   have c4:=HMw9.out.cell (i:=4) rfl
   have f4:=HMw9.out.free 4
   refine hc 14 fun K hK=> ?_
   go_simp
   have HMwx:=Lib.hid (HMw9.out.set 4 (.slice p9 (r.held.length+1) q9))
   have HTwx:=Lib.hid (HTw9.out.setCell (b:=i.rb) (.inl (by simp)) 4 (.slice p9 (r.held.length+1) q9))
   have HOx:=Lib.hid (ak HO9.out ((aa.refl [i.rb] w9).setCell (b:=i.rb) (.inl (by simp)) 4 (.slice p9 (r.held.length+1) q9)) (fun k hk=>(ap HO9.out hk).notin (bC.one HMw9.out.ty) (by decide)))
   clear c4 f4
   (try go_wp2_with fail)
   refine hK.out _ _ ((by rw[←HSV.out];exact HMwx.out.cell (i:=3) rfl)) fun _=> ?_
   clear hK K hHeld
   rename_i hHeld
   (try go_frame)
   refine hd ?_
   clear hHeld
   (try go_wp2_with fail)
   go_meet
   exact⟨_,by rw[List.map_append];exact HOx.out,HMwx.out,HTwx.out,HNE.out⟩
  ·refine dC 70 3 1 _ [.int .i64 (ns:Int)] (.int .i64 0) 1 8 Tryz.underlying70 ny (by omega) (by omega) rfl (by kernel_rfl) ?_
   intro g8 w8 l8 B8 e8 z8
   have hb8:Below wd.heap.size wd w8:=e8.mono l8
   have HG8:=Lib.hid B8
   have HMw8:=Lib.hid (HMwd.out.below hb8 HMwd.out.lt)
   have HOw8:=Lib.hid (own_below hb8 HOwd.out)
   have HTw8:=Lib.hid (HTwd.out.trans (aa.of_below hb8 (Nat.le_refl _)))
   clear B8 e8 z8 hb8 l8
   (try go_wp2_with fail)
   refine hK.out _ _ ((by rw[←HSV.out];exact HMw8.out.cell (i:=3) rfl)) fun _=> ?_
   clear hK K hHeld
   rename_i hHeld
   (try go_frame)
   refine hc 4 fun K hK=> ?_
   have c4:w8.cell? ⟨i.rb,4,none⟩=some (i.hv):=HMw8.out.cell (i:=4) rfl
   go_simp
   clear c4
   (try go_wp2_with fail)
   refine hK.out _ _ ((by rw[←HSV.out];exact HMw8.out.cell (i:=3) rfl)) fun _=> ?_
   clear hK K hHeld
   rename_i hHeld
   (try go_frame)
   refine hc 11 fun K hK=> ?_
   refine df _ _ 70 rfl i0 (.int .i64 0) 8 Tryz.underlying70 hi hz0 hz1 hz2 rfl (by decide) rfl HOw8.out ⟨g8,0,none⟩ 1 1 [.int .i64 (ns:Int)] rfl rfl (cd HG8.out) (by intro v hv;simp at hv;subst hv;rfl) (by have:=HS.out.nh;show r.held.length+1≤maxLen;unfold maxLen;omega) (by have:=HS.out.nh;show(r.held.length+1)*8≤140737488355328;omega) (Nat.zero_le _) ?_
   intro v' w9 own9 grow9' near9'
   have grow9:w8.grownBy w9 (i.hv).ownBlock:=grow9'
   have near9:dY w8 (i.hv).ownBlock v'.ownBlock:=near9'
   clear grow9' near9'
   obtain⟨p9,q9,hsh⟩:=aT own9
   subst hsh
   have HMw9:=Lib.hid (HMw8.out.grown grow9 (fun e=>absurd (show 3=133 from(ap HOw8.out e.symm).eq HMw8.out.ty) (by decide)))
   have HO9:=Lib.hid own9
   have HNE:=Lib.hid (near9.back HTw8.out.size)
   have HTw9:=Lib.hid (HTw8.out.trans (aa.of_grown grow9 (fun k hk=>by simp[hk])))
   clear own9 grow9 near9
   (try go_wp2_with fail)
   refine hK.out _ _ ((by rw[←HSV.out];exact HMw9.out.cell (i:=3) rfl)) fun _=> ?_
   clear hK K hHeld
   rename_i hHeld
   (try go_frame)
   refine hp 12 ?_
   refine hp 13 ?_
   have c4:=HMw9.out.cell (i:=4) rfl
   have f4:=HMw9.out.free 4
   refine hc 14 fun K hK=> ?_
   go_simp
   have HMwx:=Lib.hid (HMw9.out.set 4 (.slice p9 (r.held.length+1) q9))
   have HTwx:=Lib.hid (HTw9.out.setCell (b:=i.rb) (.inl (by simp)) 4 (.slice p9 (r.held.length+1) q9))
   have HOx:=Lib.hid (ak HO9.out ((aa.refl [i.rb] w9).setCell (b:=i.rb) (.inl (by simp)) 4 (.slice p9 (r.held.length+1) q9)) (fun k hk=>(ap HO9.out hk).notin (bC.one HMw9.out.ty) (by decide)))
   clear c4 f4
   (try go_wp2_with fail)
   refine hK.out _ _ ((by rw[←HSV.out];exact HMwx.out.cell (i:=3) rfl)) fun _=> ?_
   clear hK K hHeld
   rename_i hHeld
   (try go_frame)
   refine hd ?_
   clear hHeld
   (try go_wp2_with fail)
   go_meet
   exact⟨_,by rw[List.map_append];exact HOx.out,HMwx.out,HTwx.out,HNE.out⟩
 case rest=>
  obtain⟨hv',hT7⟩:=HTl.out.at'.put_held (l:=r.held++[(ns:Int)]) (by rw[List.length_append];exact hcut)
  obtain⟨_,_,_,hct,_⟩:=hcut.ex
  have HXm:=Lib.hid (hct.blk HXl.out (HXl.out.ty.notin (bC.cons HMwl.out.ty (bC.own HOwl.out)) (by decide)))
  have HTm:=Lib.hid (HTl.out.trans hT7)
  clear hcut hT7 hct HMwl HOwl
  have HMwc:=Lib.hid HTm.out.at'.blk
  have HOwc:=Lib.hid HTm.out.at'.cells
  obtain⟨i0,hi,hz0,hz1,hz2⟩:=info_parts ql
  have c0:=HMwc.out.cell (i:=2) rfl
  go_upto_region 9 with(first
   |((with_reducible refine aw 162 ?parts111 (dq.cells ⟨0,-1,0,false,⟨#[]⟩⟩) ?hg ?ho ?hf ?_);(case hg|ho=>rfl);(case hf=>exact xr))
   |((with_reducible refine aS 131 162 1 ?parts112 (dq.cells ⟨0,-1,0,false,⟨#[]⟩⟩) (.agg (dq.cells ⟨0,0,0,false,⟨#[]⟩⟩).toArray) 5 48 (some 112) Tryz.underlying131 ql (by omega) (by omega) ?hgd ?ho ?hd ?hf ?_);(case hgd|ho|hd=>rfl);(case hf=>kernel_rfl);(intro g8 w8 l8 B8 e8 z8;have hb8:Below wc.heap.size wc w8:=e8.mono l8;have ow8:=own_below hb8 HOwc.out;have bw8:=HMwc.out.below hb8 HMwc.out.lt))
   |(at_builtin;refine fF _ _ 131 rfl rfl i0 (.agg (dq.cells ⟨0,0,0,false,⟨#[]⟩⟩).toArray) 48 Tryz.underlying131 hi hz0 hz1 hz2 rfl (by decide) rfl ow8 ⟨g8,0,none⟩ 1 1 (dq.cells ⟨0,-1,0,false,⟨#[]⟩⟩) rfl rfl (cd B8) (uD _) (by have:=HS.out.nc;show r.cells.length+1≤maxLen;unfold maxLen;omega) (by have:=HS.out.nc;show(r.cells.length+1)*48≤140737488355328;omega) (Nat.zero_le _) ?_;intro v' w9 own9 grow9' near9';obtain⟨p9,q9,hsh⟩:=aT own9;subst hsh;have grow9:w8.grownBy w9 (i.cv).ownBlock:=grow9';have near9:dY w8 (i.cv).ownBlock ((.slice p9 (r.cells.length+1) q9):Value).ownBlock:=near9';clear grow9' near9';have bw9:=bw8.grown grow9 (fun e=>absurd (show 162=133 from(ap ow8 e.symm).eq bw8.ty) (by decide));have c4:=bw9.cell (i:=2) rfl;have f4:=bw9.free 2)
   |fail)
  have hTw9:aa (i.rb::(i.cv).ownBlock.toList) wc w9:=(aa.of_below hb8 (Nat.le_refl _)).trans (aa.of_grown grow9 (fun k hk=>by simp[hk]))
  obtain⟨wn,hw1⟩:∃wz,wz=w9.setCell ⟨i.rb,2,none⟩ (.slice p9 (r.cells.length+1) q9):=⟨_,rfl⟩
  have HRPwn:=Lib.hid (show fc wc wn i.rb 2 (dk {i with hv:=hv'} r.root r.sup) 133 162 5 i.cv (r.cells.length+1) ((r.cells++[(⟨0,-1,0,false,⟨#[]⟩⟩:dq)]).flatMap dq.cells)from by
   rw[hw1]
   exact⟨_,by rw[pD];exact ak own9 ((aa.refl [i.rb] w9).setCell (b:=i.rb) (.inl (by simp)) 2 _) (fun k hk=>(ap own9 hk).notin (bC.one bw9.ty) (by decide)),bw9.set 2 _,hTw9.setCell (b:=i.rb) (.inl (by simp)) 2 _,near9.back hb8.size⟩)
  rw[←hw1]
  clear c0 hw1 hTw9 own9 grow9 near9 c4 f4 bw9 bw8 ow8 hb8 B8 e8 z8 l8 hi hz0 hz1 hz2
  obtain⟨cv',hT8⟩:=HTm.out.at'.put_cells (l:=r.cells++[(⟨0,-1,0,false,⟨#[]⟩⟩:dq)]) (by rw[List.length_append];exact HRPwn.out)
  obtain⟨_,_,_,hct,_⟩:=HRPwn.out.ex
  have HXwn:=Lib.hid (hct.blk HXm.out (HXm.out.ty.notin (bC.cons HMwc.out.ty (bC.own HOwc.out)) (by decide)))
  have HTn:=Lib.hid (HTm.out.trans hT8)
  clear hT8 hct HMwc HOwc HRPwn
  have HMwn:=Lib.hid HTn.out.at'.blk
  have HOwn:=Lib.hid HTn.out.at'.sealed
  go_cut []from 116 to 127 (fun wx=>fc wn wx i.rb 3 (dk {i with hv:=hv',cv:=cv'} r.root r.sup) 133 27 9 i.sv (r.sealed.length+1) (gV (r.sealed++[⟨R1,t⟩])))
  case first=>
   refine hb (fun wx=>wx.rangeAt b2 0 R1.cells) (HXwn.out.drew.range) fun hHeld=> ?_
   obtain⟨wd,hwd⟩:∃wd,wd=wn.drew:=⟨_,rfl⟩
   have hbd:Below wn.heap.size wn wd:=by rw[hwd];exact(Below.refl _ _).drew
   have HTwn:=Lib.hid (aa.refl (i.rb::(i.sv).ownBlock.toList) wn)
   have HXwd:=Lib.hid (HXwn.out.below hbd HXwn.out.lt)
   have HMwd:=Lib.hid (HMwn.out.below hbd HMwn.out.lt)
   have HOwd:=Lib.hid (own_below hbd HOwn.out)
   have HTwd:=Lib.hid (HTwn.out.trans (aa.of_below hbd (Nat.le_refl _)))
   rw[←hwd]
   rw[←hwd]at hHeld
   clear hwd hbd
   obtain⟨i0,hi,hz0,hz1,hz2⟩:=info_parts jZ
   refine hp 0 ?_
   refine hp 1 ?_
   refine hp 2 ?_
   refine hp 3 ?_
   refine hl 5 25 b2 0 (R1.cells) (fun w h=>h) Tryz.underlying25 aI ?_
   refine hp 6 ?_
   refine hu 7 27 (aH.cells ⟨R1,t⟩) (parts:=#[(0, .tmp 121),(1, .tmp 122)]) (by refine Eq.trans ?_ (zA R1 t);kernel_rfl) ?_
   refine wI 4 8 (fun K hK=> ?_) (fun K hK=> ?_)
   ·have c4:wd.cell? ⟨i.rb,3,none⟩=some (i.sv):=HMwd.out.cell (i:=3) rfl
    go_simp
    clear c4
    (try go_wp2_with fail)
    refine hK.out _ _ (HXwd.out.range) fun _=> ?_
    clear hK K hHeld
    rename_i hHeld
    (try go_frame)
    refine hc 8 fun K hK=> ?_
    refine dC 45 27 1 _ (aH.cells ⟨R1,t⟩) (.agg (aH.cells ⟨Rec.zero,⟨#[]⟩⟩).toArray) 9 96 Tryz.underlying45 jZ (by omega) (by omega) rfl (by kernel_rfl) ?_
    intro g8 w8 l8 B8 e8 z8
    have hb8:Below wd.heap.size wd w8:=e8.mono l8
    have HG8:=Lib.hid B8
    have HXw8:=Lib.hid (HXwd.out.below hb8 HXwd.out.lt)
    have HMw8:=Lib.hid (HMwd.out.below hb8 HMwd.out.lt)
    have HOw8:=Lib.hid (own_below hb8 HOwd.out)
    have HTw8:=Lib.hid (HTwd.out.trans (aa.of_below hb8 (Nat.le_refl _)))
    clear B8 e8 z8 hb8 l8
    (try go_wp2_with fail)
    refine hK.out _ _ (HXw8.out.range) fun _=> ?_
    clear hK K hHeld
    rename_i hHeld
    (try go_frame)
    refine hc 9 fun K hK=> ?_
    refine df _ _ 45 rfl i0 (.agg (aH.cells ⟨Rec.zero,⟨#[]⟩⟩).toArray) 96 Tryz.underlying45 hi hz0 hz1 hz2 rfl (by decide) rfl HOw8.out ⟨g8,0,none⟩ 1 1 (aH.cells ⟨R1,t⟩) rfl rfl (cd HG8.out) (j5 _) (by have:=HS.out.ns;show r.sealed.length+1≤maxLen;unfold maxLen;omega) (by have:=HS.out.ns;show(r.sealed.length+1)*96≤140737488355328;omega) (Nat.zero_le _) ?_
    intro v' w9 own9 grow9' near9'
    have grow9:w8.grownBy w9 (i.sv).ownBlock:=grow9'
    have near9:dY w8 (i.sv).ownBlock v'.ownBlock:=near9'
    clear grow9' near9'
    obtain⟨p9,q9,hsh⟩:=aT own9
    subst hsh
    have HXw9:=Lib.hid (HXw8.out.grown grow9 (fun e=>absurd (show 27=25 from(ap HOw8.out e.symm).eq HXw8.out.ty) (by decide)))
    have HMw9:=Lib.hid (HMw8.out.grown grow9 (fun e=>absurd (show 27=133 from(ap HOw8.out e.symm).eq HMw8.out.ty) (by decide)))
    have HO9:=Lib.hid own9
    have HNE:=Lib.hid (near9.back HTw8.out.size)
    have HTw9:=Lib.hid (HTw8.out.trans (aa.of_grown grow9 (fun k hk=>by simp[hk])))
    clear own9 grow9 near9
    (try go_wp2_with fail)
    refine hK.out _ _ (HXw9.out.range) fun _=> ?_
    clear hK K hHeld
    rename_i hHeld
    (try go_frame)
    refine hp 10 ?_
    refine hp 11 ?_
    have c4:=HMw9.out.cell (i:=3) rfl
    have f4:=HMw9.out.free 3
    refine hc 12 fun K hK=> ?_
    go_simp
    have HXwx:=Lib.hid (HXw9.out.set_other (a:=⟨i.rb,3,none⟩) (fun e=>absurd ((e ▸ HXw9.out.ty).eq HMw9.out.ty) (by decide)) (.slice p9 (r.sealed.length+1) q9))
    have HMwx:=Lib.hid (HMw9.out.set 3 (.slice p9 (r.sealed.length+1) q9))
    have HTwx:=Lib.hid (HTw9.out.setCell (b:=i.rb) (.inl (by simp)) 3 (.slice p9 (r.sealed.length+1) q9))
    have HOx:=Lib.hid (ak HO9.out ((aa.refl [i.rb] w9).setCell (b:=i.rb) (.inl (by simp)) 3 (.slice p9 (r.sealed.length+1) q9)) (fun k hk=>(ap HO9.out hk).notin (bC.one HMw9.out.ty) (by decide)))
    clear c4 f4
    (try go_wp2_with fail)
    refine hK.out _ _ (HXwx.out.range) fun _=> ?_
    clear hK K hHeld
    rename_i hHeld
    (try go_frame)
    refine hd ?_
    clear hHeld
    (try go_wp2_with fail)
    go_meet
    exact⟨_,by rw[jL];exact HOx.out,HMwx.out,HTwx.out,HNE.out⟩
   ·refine dC 45 27 1 _ (aH.cells ⟨R1,t⟩) (.agg (aH.cells ⟨Rec.zero,⟨#[]⟩⟩).toArray) 9 96 Tryz.underlying45 jZ (by omega) (by omega) rfl (by kernel_rfl) ?_
    intro g8 w8 l8 B8 e8 z8
    have hb8:Below wd.heap.size wd w8:=e8.mono l8
    have HG8:=Lib.hid B8
    have HXw8:=Lib.hid (HXwd.out.below hb8 HXwd.out.lt)
    have HMw8:=Lib.hid (HMwd.out.below hb8 HMwd.out.lt)
    have HOw8:=Lib.hid (own_below hb8 HOwd.out)
    have HTw8:=Lib.hid (HTwd.out.trans (aa.of_below hb8 (Nat.le_refl _)))
    clear B8 e8 z8 hb8 l8
    (try go_wp2_with fail)
    refine hK.out _ _ (HXw8.out.range) fun _=> ?_
    clear hK K hHeld
    rename_i hHeld
    (try go_frame)
    refine hc 4 fun K hK=> ?_
    have c4:w8.cell? ⟨i.rb,3,none⟩=some (i.sv):=HMw8.out.cell (i:=3) rfl
    go_simp
    clear c4
    (try go_wp2_with fail)
    refine hK.out _ _ (HXw8.out.range) fun _=> ?_
    clear hK K hHeld
    rename_i hHeld
    (try go_frame)
    refine hc 9 fun K hK=> ?_
    refine df _ _ 45 rfl i0 (.agg (aH.cells ⟨Rec.zero,⟨#[]⟩⟩).toArray) 96 Tryz.underlying45 hi hz0 hz1 hz2 rfl (by decide) rfl HOw8.out ⟨g8,0,none⟩ 1 1 (aH.cells ⟨R1,t⟩) rfl rfl (cd HG8.out) (j5 _) (by have:=HS.out.ns;show r.sealed.length+1≤maxLen;unfold maxLen;omega) (by have:=HS.out.ns;show(r.sealed.length+1)*96≤140737488355328;omega) (Nat.zero_le _) ?_
    intro v' w9 own9 grow9' near9'
    have grow9:w8.grownBy w9 (i.sv).ownBlock:=grow9'
    have near9:dY w8 (i.sv).ownBlock v'.ownBlock:=near9'
    clear grow9' near9'
    obtain⟨p9,q9,hsh⟩:=aT own9
    subst hsh
    have HXw9:=Lib.hid (HXw8.out.grown grow9 (fun e=>absurd (show 27=25 from(ap HOw8.out e.symm).eq HXw8.out.ty) (by decide)))
    have HMw9:=Lib.hid (HMw8.out.grown grow9 (fun e=>absurd (show 27=133 from(ap HOw8.out e.symm).eq HMw8.out.ty) (by decide)))
    have HO9:=Lib.hid own9
    have HNE:=Lib.hid (near9.back HTw8.out.size)
    have HTw9:=Lib.hid (HTw8.out.trans (aa.of_grown grow9 (fun k hk=>by simp[hk])))
    clear own9 grow9 near9
    (try go_wp2_with fail)
    refine hK.out _ _ (HXw9.out.range) fun _=> ?_
    clear hK K hHeld
    rename_i hHeld
    (try go_frame)
    refine hp 10 ?_
    refine hp 11 ?_
    have c4:=HMw9.out.cell (i:=3) rfl
    have f4:=HMw9.out.free 3
    refine hc 12 fun K hK=> ?_
    go_simp
    have HXwx:=Lib.hid (HXw9.out.set_other (a:=⟨i.rb,3,none⟩) (fun e=>absurd ((e ▸ HXw9.out.ty).eq HMw9.out.ty) (by decide)) (.slice p9 (r.sealed.length+1) q9))
    have HMwx:=Lib.hid (HMw9.out.set 3 (.slice p9 (r.sealed.length+1) q9))
    have HTwx:=Lib.hid (HTw9.out.setCell (b:=i.rb) (.inl (by simp)) 3 (.slice p9 (r.sealed.length+1) q9))
    have HOx:=Lib.hid (ak HO9.out ((aa.refl [i.rb] w9).setCell (b:=i.rb) (.inl (by simp)) 3 (.slice p9 (r.sealed.length+1) q9)) (fun k hk=>(ap HO9.out hk).notin (bC.one HMw9.out.ty) (by decide)))
    clear c4 f4
    (try go_wp2_with fail)
    refine hK.out _ _ (HXwx.out.range) fun _=> ?_
    clear hK K hHeld
    rename_i hHeld
    (try go_frame)
    refine hd ?_
    clear hHeld
    (try go_wp2_with fail)
    go_meet
    exact⟨_,by rw[jL];exact HOx.out,HMwx.out,HTwx.out,HNE.out⟩
  case rest=>
   obtain⟨sv',hT9⟩:=HTn.out.at'.put_sealed (l:=r.sealed++[⟨R1,t⟩]) (by rw[List.length_append];exact hcut)
   obtain⟨_,_,_,hct,_⟩:=hcut.ex
   have HXo:=Lib.hid (hct.blk HXwn.out (HXwn.out.ty.notin (bC.cons HMwn.out.ty (bC.own HOwn.out)) (by decide)))
   have HTo:=Lib.hid (HTn.out.trans hT9)
   clear hcut hT9 hct HMwn HOwn
   have y0:=HXo.out.cell HC10.out
   go_wp2_with fail
   refine(jW KY (⟨#[110,101,120,116]⟩:ByteArray) (.slice none 0 0) [] _ ?hrow (fun j x hx=>by simp at hx) (by decide)).mono ?_
   case hrow=>exact .inl ⟨rfl,_,_,rfl⟩
   rintro e wp ⟨he,hbp⟩
   have hnk:∃nk,e= .returned (.tuple #[.string nk, .bool true])∧aj nk (eJ KY.data.toList [110,101,120,116] []):=by
    unfold kf at he
    rcases he with⟨_,h2⟩|⟨h2,_⟩
    ·exact h2
    ·exact absurd ⟨HS.out.ksz,by decide⟩ h2
   clear he
   obtain⟨nk,rfl,tn⟩:=hnk
   have HTN:=Lib.hid tn
   have HXp:=Lib.hid (HXo.out.below hbp HXo.out.lt)
   have HTp:=Lib.hid (HTo.out.below hbp)
   clear tn hbp y0
   have HMwp:=Lib.hid HTp.out.at'.blk
   have HOwp:=Lib.hid HTp.out.at'.keys
   obtain⟨i0,hi,hz0,hz1,hz2⟩:=info_parts nw
   have c0:=HMwp.out.cell (i:=12) rfl
   go_upto_region 13 with(first
    |((with_reducible refine aS 30 9 1 ?parts142 [.string nk] (.string ⟨#[]⟩) 1 16 (some 142) Tryz.underlying30 nw (by omega) (by omega) ?hgd ?ho ?hd ?hf ?_);(case hgd|ho|hd=>rfl);(case hf=>kernel_rfl);(intro g8 w8 l8 B8 e8 z8;have hb8:Below wp.heap.size wp w8:=e8.mono l8;have ow8:=own_below hb8 HOwp.out;have bw8:=HMwp.out.below hb8 HMwp.out.lt))
    |(at_builtin;refine fF _ _ 30 rfl rfl i0 (.string ⟨#[]⟩) 16 Tryz.underlying30 hi hz0 hz1 hz2 rfl (by decide) rfl ow8 ⟨g8,0,none⟩ 1 1 [.string nk] rfl rfl (cd B8) (by intro v hv;simp at hv;subst hv;rfl) (by have:=HS.out.nk;show r.keys.length+1≤maxLen;unfold maxLen;omega) (by have:=HS.out.nk;show(r.keys.length+1)*16≤140737488355328;omega) (Nat.zero_le _) ?_;intro v' w9 own9 grow9' near9';obtain⟨p9,q9,hsh⟩:=aT own9;subst hsh;have grow9:w8.grownBy w9 (i.kv).ownBlock:=grow9';have near9:dY w8 (i.kv).ownBlock ((.slice p9 (r.keys.length+1) q9):Value).ownBlock:=near9';clear grow9' near9';have bw9:=bw8.grown grow9 (fun e=>absurd (show 9=133 from(ap ow8 e.symm).eq bw8.ty) (by decide));have c4:=bw9.cell (i:=12) rfl;have f4:=bw9.free 12)
    |fail)
   have hTw9:aa (i.rb::(i.kv).ownBlock.toList) wp w9:=(aa.of_below hb8 (Nat.le_refl _)).trans (aa.of_grown grow9 (fun k hk=>by simp[hk]))
   obtain⟨wq,hw1⟩:∃wz,wz=w9.setCell ⟨i.rb,12,none⟩ (.slice p9 (r.keys.length+1) q9):=⟨_,rfl⟩
   have HRPwq:=Lib.hid (show fc wp wq i.rb 12 (dk {i with hv:=hv',cv:=cv',sv:=sv'} r.root r.sup) 133 9 1 i.kv (r.keys.length+1) ((r.keys++[nk]).map .string)from by
    rw[hw1]
    exact⟨_,by rw[List.map_append];exact ak own9 ((aa.refl [i.rb] w9).setCell (b:=i.rb) (.inl (by simp)) 12 _) (fun k hk=>(ap own9 hk).notin (bC.one bw9.ty) (by decide)),bw9.set 12 _,hTw9.setCell (b:=i.rb) (.inl (by simp)) 12 _,near9.back hb8.size⟩)
   rw[←hw1]
   clear c0 hw1 hTw9 own9 grow9 near9 c4 f4 bw9 bw8 ow8 hb8 B8 e8 z8 l8 hi hz0 hz1 hz2
   obtain⟨kv',hT12⟩:=HTp.out.at'.put_keys (l:=r.keys++[nk]) (by rw[List.length_append];exact HRPwq.out)
   obtain⟨_,_,_,hct,_⟩:=HRPwq.out.ex
   have HXq:=Lib.hid (hct.blk HXp.out (HXp.out.ty.notin (bC.cons HMwp.out.ty (bC.own HOwp.out)) (by decide)))
   have HTq:=Lib.hid (HTp.out.trans hT12)
   clear hT12 hct HMwp HOwp HRPwq
   go_wp2_with fail
   refine(show Calls Tryz.prog 74 #[.pointer (some ⟨i.rb,0,none⟩)] wq _ from re {i with hv:=hv',cv:=cv',sv:=sv',kv:=kv'} _ wq HTq.out.at' HS.out.f0 HS.out.f1 (by show(l0++[R1]).length≤1048576;rw[List.length_append,HNL.out];have:=HS.out.nr;have:=HRL.out;show n+1≤1048576;omega) HS.out.g0 HS.out.g1).mono ?_
   rintro e wu ⟨rfl,hT13,ht13⟩
   have HTu:=Lib.hid (HTq.out.trans hT13)
   have y0:=(ht13.blk HXq.out (fun hm=>by simp at hm;exact absurd ((hm ▸ HXq.out.ty).eq HTq.out.at'.blk.ty) (by decide))).cell HC10.out
   clear hT13 ht13
   go_wp2_with fail
   (try simp only[Exit.inBlock,Exit.then]);refine bodyPost_ret (results_none rfl _ _ _) rfl ⟨rfl,{i with hv:=hv',cv:=cv',sv:=sv',kv:=kv'},s,t,nk,HTS.out,HTN.out,HTT.out,rfl, ?_⟩
   rw[HR1.out,HNS.out]
   exact HTu.out
theorem ku {c:dU}:(Tryz.prog.info? 72).map (·.size)=some c.cells.length:=by kernel_rfl
theorem dU.one (c:dU):∀v∈c.cells,v.oneCell'=true:=by
 intro v hv
 simp only[dU.cells,List.mem_cons,List.mem_nil_iff,or_false]at hv
 rcases hv with rfl|rfl|rfl|rfl|rfl|rfl|rfl<;>rfl
structure kw (r:dj) (KY:ByteArray):Prop where
 geo:cM r.geo
 vers:r.vers=[]
 f0:0≤r.first
 f1:r.first≤4294967295
 nr:r.recs.length≤1048574
 ep:bh r.first r.recs<4294967295
 u0:0≤r.used
 u1:r.used<r.geo.blocks-4
 now:iG r.recs≤r.clock
 t0:0≤r.clock
 t1:r.clock≤1099511627776
 key:r.keys.getLast?=some KY
 ksz:KY.size=32
 none:∀x,x∈r.cells→x.slot<0
 nc:r.cells.length≤1048575
 ns:r.sealed.length≤1048575
 nh:r.held.length≤1048575
 nk:r.keys.length≤1048575
 tame:gx r.sealed
 last:(cE r.sealed).size=32
 g0:0≤r.sup.gen
 g1:r.sup.gen≤1099511627776
def lU (r:dj) (s t nk:ByteArray):dj:={r with used:=r.used+1,recs:=r.recs++[jE r.first r.recs r.clock s],held:=r.held++[(r.sealed.length:Int)],cells:=r.cells++[⟨0,-1,0,false,⟨#[]⟩⟩],sealed:=r.sealed++[⟨jE r.first r.recs r.clock s,t⟩],keys:=r.keys++[nk],sup:=lT {r with recs:=r.recs++[jE r.first r.recs r.clock s],cells:=r.cells++[⟨0,-1,0,false,⟨#[]⟩⟩]}}
theorem kw.seal {r:dj} {KY:ByteArray} (h:kw r KY) (z:ByteArray):Fg {r with used:=r.used+1,recs:=r.recs++[jE r.first r.recs r.clock z]} r.recs (jE r.first r.recs r.clock z) KY where
 recs:=rfl
 kind:=rfl
 ok:=fun s hs=>yx h.f0 h.ep h.t0 h.t1 hs
 key:=h.key
 ksz:=h.ksz
 none:=h.none
 nc:=h.nc
 ns:=h.ns
 nh:=h.nh
 nk:=h.nk
 nr:=by show(r.recs++[_]).length≤1048576;rw[List.length_append];have:=h.nr;simp;omega
 tame:=h.tame
 last:=h.last
 name:=by show(0:Nat)≤1048576;omega
 ep:=by have h1:=(kR r.first r.recs).1;have h2:=h.f0;have h3:=h.ep;show Fits (bh r.first r.recs);unfold Fits;omega
 f0:=h.f0
 f1:=h.f1
 g0:=h.g0
 g1:=h.g1
structure I4 (w w':World) (i:bY) (r:dj) (b4:Nat) (p:Value):Prop where
 ex:∃b5 lv z,p= .pointer (some ⟨b5,0,none⟩)∧ab w' b5 (eF 0) 101∧w.heap.size≤b5∧ab w' b4 (eF 0) 101∧cS w w' i {i with lv:=lv} {r with used:=r.used+1,recs:=r.recs++[jE r.first r.recs r.clock z]}
theorem xt (i:bY) (r:dj) (KY:ByteArray) (c:dU) (w:World) (h:bN w i r) (hc:kw r KY) (hk:c.kind=5):
  Calls Tryz.prog 35 #[.pointer (some ⟨i.rb,0,none⟩),c.v] w fun e w'=>e= .returned (.agg (eF 0).toArray)∧∃(i':bY) (s t nk:ByteArray),aj s (dm [])∧aj nk (eJ KY.data.toList [110,101,120,116] [])∧t.size=32∧i'.rb=i.rb∧cS w w' i i' (lU r s t nk):=by
 obtain⟨kind,lba,epoch,time,data,name,kp,kn,kc⟩:=c
 simp only at hk
 subst hk
 have H0:=Lib.hid h
 have HC:=Lib.hid hc
 have HMD:=Lib.hid (fun(wx:World) (hx:bN wx i r)=>BV i.mb r.geo r.used r.clock r.first i.lv i.vv r.recs ⟨5,lba,epoch,time,data,name,kp,kn,kc⟩ wx (by have:=hx.mdl;rw[hc.vers]at this;exact this) hc.geo rfl hc.f0 hc.f1 (by have:=hc.nr;omega) hc.ep hc.u1 hc.u0 hc.now hc.t0 hc.t1)
 clear h hc
 go_enter Tryz.func35,Tryz.ntmps35
 go_upto_region 1 with(first
  |((with_reducible refine ag 72 (.tmp 1) (dU.cells ⟨5,lba,epoch,time,data,name,kp,kn,kc⟩) (some 3) ?hgd ?ho ?hd ?hx ?_);(case hgd|ho|hd|hx=>rfl);(intro b3 w1 l1 B1 e1 z1))
  |((with_reducible refine ai 101 _ lR (some 4) ?hgd ?ho ?hd ?_);(case hgd|ho|hd=>rfl);(intro b4 w2 l2 B2 e2 z2))
  |fail)
 have HX3:=Lib.hid (B1.below e2 (Nat.lt_of_lt_of_le z1 l2))
 have HL3:=Lib.hid l1
 have HX4:=Lib.hid B2
 have HL4:=Lib.hid (Nat.le_trans l1 (Nat.le_trans (Nat.le_of_lt z1) l2))
 have HBE2:=Lib.hid ((e1.mono l1).trans (e2.mono HL4.out))
 have HN34:=Lib.hid (show b3≠b4 from by omega)
 clear B1 B2 e1 e2 l1 l2 z1 z2
 (try go_frame)
 go_cut [5]from 10 to 15 (fun p wx=>I4 w wx i r b4 p∧ab wx b3 (dU.cells ⟨5,lba,epoch,time,data,name,kp,kn,kc⟩) 72)
 case first=>
  refine hb (fun wx=>wx.cell? ⟨i.rb,0,none⟩=some (.pointer (some ⟨i.mb,0,none⟩))∧wx.rangeAt b3 0 (dU.cells ⟨5,lba,epoch,time,data,name,kp,kn,kc⟩)) (⟨((H0.out.below HBE2.out).below (Below.refl _ _).drew).blk.cell (i:=0) rfl,HX3.out.drew.range⟩) fun hHeld=> ?_
  obtain⟨wd,hdr⟩:∃wz,wz=w2.drew:=⟨_,rfl⟩
  have hbz:Below w2.heap.size w2 wd:=by rw[hdr];exact(Below.refl _ _).drew
  have HX3d:=Lib.hid (HX3.out.below hbz HX3.out.lt)
  have HX4d:=Lib.hid (HX4.out.below hbz HX4.out.lt)
  have HBEd:=Lib.hid (HBE2.out.trans (hbz.mono HBE2.out.size))
  have HRd:=Lib.hid (H0.out.below HBEd.out)
  rw[←hdr]
  rw[←hdr]at hHeld
  clear hdr hbz
  refine hp 0 ?_
  refine hp 1 ?_
  refine hp 2 ?_
  refine hp 3 ?_
  refine hl 4 72 b3 0 ((dU.cells ⟨5,lba,epoch,time,data,name,kp,kn,kc⟩)) (fun w h=>h.2) Tryz.underlying72 ku ?_
  refine wI 5 6 (fun K hK=> ?_) (fun K hK=> ?_)
  ·go_simp
   refine(HMD.out _ HRd.out).mono ?_
   rintro e we ⟨rfl,lv1,z,tz,hmm,htm,hnm⟩
   have HTwe:=Lib.hid (HRd.out.put_mdl htm (by rw[HC.out.vers];exact hmm) hnm)
   have HX3we:=Lib.hid (htm.blk HX3d.out (fun hm=>by
    rcases List.mem_cons.1 hm with e|hm
    ·have:=H0.out.mdl.blk.lt;have:=HL3.out;omega
    ·have:=(ap H0.out.mdl.recs (show i.lv.ownBlock=some b3 from by simpa using hm)).lt;have:=HL3.out;omega))
   have HX4we:=Lib.hid (htm.blk HX4d.out (fun hm=>by
    rcases List.mem_cons.1 hm with e|hm
    ·have:=H0.out.mdl.blk.lt;have:=HL4.out;omega
    ·have:=(ap H0.out.mdl.recs (show i.lv.ownBlock=some b4 from by simpa using hm)).lt;have:=HL4.out;omega))
   clear tz hmm htm hnm
   (try go_wp2_with fail)
   refine hK.out _ _ (⟨HTwe.out.at'.blk.cell (i:=0) rfl,HX3we.out.range⟩) fun _=> ?_
   clear hK K hHeld
   rename_i hHeld
   (try go_frame)
   refine hc 6 fun K hK=> ?_
   refine kq 101 _ lR rfl ?_
   intro b5 wf le Be ee ze
   have hbe:Below we.heap.size we wf:=ee.mono le
   have HX5wf:=Lib.hid Be
   have HX3wf:=Lib.hid (HX3we.out.below hbe HX3we.out.lt)
   have HX4wf:=Lib.hid (HX4we.out.below hbe HX4we.out.lt)
   have HL5:=Lib.hid (show w.heap.size≤b5 from Nat.le_trans (HTwe.out.ahead HBEd.out).turned.size le)
   have HTF:=Lib.hid ((HTwe.out.ahead HBEd.out).below hbe)
   have HN5:=Lib.hid (HTwe.out.at'.fresh le)
   have HN35:=Lib.hid (show b3≠b5 from by have:=HX3we.out.lt;omega)
   have HN45:=Lib.hid (show b4≠b5 from by have:=HX4we.out.lt;omega)
   clear Be ee ze le hbe
   (try go_wp2_with fail)
   refine hK.out _ _ (⟨HTF.out.at'.blk.cell (i:=0) rfl,HX3wf.out.range⟩) fun _=> ?_
   clear hK K hHeld
   rename_i hHeld
   (try go_frame)
   refine hc 7 fun K hK=> ?_
   refine gi 101 (.tmp 5) (.tmp 15) b5 (eF 0) (eF 0) 101 HX5wf.out rfl fD (lS 0) rfl rfl rfl ?_
   intro wz Bz oz
   have HTz:=Lib.hid (show cS w wz i {i with lv:=lv1} {r with used:=r.used+1,recs:=r.recs++[jE r.first r.recs r.clock z]} from⟨HTF.out.at'.away (oz.turned (S:=[b5]) (by simp)) (fun x hx hm=>HN5.out (by simp at hm;rw[←hm];exact hx)),HTF.out.turned.on (oz.turned (S:=[b5]) (by simp)) (fun x hx=>by simp at hx;subst hx;exact .inr HL5.out),HTF.out.foot⟩)
   have HX3z:=Lib.hid (oz.blk HX3wf.out HN35.out)
   have HX4z:=Lib.hid (oz.blk HX4wf.out HN45.out)
   have HX5z:=Lib.hid Bz
   clear Bz oz
   refine hK.out _ _ (⟨HTz.out.at'.blk.cell (i:=0) rfl,HX3z.out.range⟩) fun _=> ?_
   clear hK K hHeld
   rename_i hHeld
   (try go_frame)
   refine hd ?_
   clear hHeld
   (try go_wp2_with fail)
   go_meet
   exact⟨⟨b5,lv1,z,rfl,HX5z.out,HL5.out,HX4z.out,HTz.out⟩,HX3z.out⟩
  ·refine kq 101 _ lR rfl ?_
   intro b5 we le Be ee ze
   have hbe:Below wd.heap.size wd we:=ee.mono le
   have HX5we:=Lib.hid Be
   have HX3we:=Lib.hid (HX3d.out.below hbe HX3d.out.lt)
   have HX4we:=Lib.hid (HX4d.out.below hbe HX4d.out.lt)
   have HL5:=Lib.hid (show w.heap.size≤b5 from Nat.le_trans HBEd.out.size le)
   have HBEe:=Lib.hid (HBEd.out.trans (hbe.mono HBEd.out.size))
   have HRwe:=Lib.hid (HRd.out.below hbe)
   have HN35:=Lib.hid (show b3≠b5 from by have:=HX3d.out.lt;omega)
   have HN45:=Lib.hid (show b4≠b5 from by have:=HX4d.out.lt;omega)
   have HN5w:=Lib.hid (HRd.out.fresh le)
   clear Be ee ze le hbe
   (try go_wp2_with fail)
   refine hK.out _ _ (⟨HRwe.out.blk.cell (i:=0) rfl,HX3we.out.range⟩) fun _=> ?_
   clear hK K hHeld
   rename_i hHeld
   (try go_frame)
   refine hc 5 fun K hK=> ?_
   go_simp
   refine(HMD.out _ HRwe.out).mono ?_
   rintro e wf ⟨rfl,lv1,z,tz,hmm,htm,hnm⟩
   have HTwf:=Lib.hid (HRwe.out.put_mdl htm (by rw[HC.out.vers];exact hmm) hnm)
   have HX3wf:=Lib.hid (htm.blk HX3we.out (fun hm=>by
    rcases List.mem_cons.1 hm with e|hm
    ·have:=H0.out.mdl.blk.lt;have:=HL3.out;omega
    ·have:=(ap H0.out.mdl.recs (show i.lv.ownBlock=some b3 from by simpa using hm)).lt;have:=HL3.out;omega))
   have HX4wf:=Lib.hid (htm.blk HX4we.out (fun hm=>by
    rcases List.mem_cons.1 hm with e|hm
    ·have:=H0.out.mdl.blk.lt;have:=HL4.out;omega
    ·have:=(ap H0.out.mdl.recs (show i.lv.ownBlock=some b4 from by simpa using hm)).lt;have:=HL4.out;omega))
   have HX5wf:=Lib.hid (htm.blk HX5we.out (fun hm=>by
    rcases List.mem_cons.1 hm with e|hm
    ·have:=H0.out.mdl.blk.lt;have:=HL5.out;omega
    ·have:=(ap H0.out.mdl.recs (show i.lv.ownBlock=some b5 from by simpa using hm)).lt;have:=HL5.out;omega))
   clear tz hmm htm hnm
   have HTF:=Lib.hid (HTwf.out.ahead HBEe.out)
   have HN5:=Lib.hid (show b5∉({i with lv:=lv1}:bY).foot from fun hm=>(HTwf.out.foot b5 hm).elim HN5w.out (fun hl=>by have:=HX5we.out.lt;omega))
   (try go_wp2_with fail)
   refine hK.out _ _ (⟨HTF.out.at'.blk.cell (i:=0) rfl,HX3wf.out.range⟩) fun _=> ?_
   clear hK K hHeld
   rename_i hHeld
   (try go_frame)
   refine hc 7 fun K hK=> ?_
   refine gi 101 (.tmp 5) (.tmp 15) b5 (eF 0) (eF 0) 101 HX5wf.out rfl fD (lS 0) rfl rfl rfl ?_
   intro wz Bz oz
   have HTz:=Lib.hid (show cS w wz i {i with lv:=lv1} {r with used:=r.used+1,recs:=r.recs++[jE r.first r.recs r.clock z]} from⟨HTF.out.at'.away (oz.turned (S:=[b5]) (by simp)) (fun x hx hm=>HN5.out (by simp at hm;rw[←hm];exact hx)),HTF.out.turned.on (oz.turned (S:=[b5]) (by simp)) (fun x hx=>by simp at hx;subst hx;exact .inr HL5.out),HTF.out.foot⟩)
   have HX3z:=Lib.hid (oz.blk HX3wf.out HN35.out)
   have HX4z:=Lib.hid (oz.blk HX4wf.out HN45.out)
   have HX5z:=Lib.hid Bz
   clear Bz oz
   refine hK.out _ _ (⟨HTz.out.at'.blk.cell (i:=0) rfl,HX3z.out.range⟩) fun _=> ?_
   clear hK K hHeld
   rename_i hHeld
   (try go_frame)
   refine hd ?_
   clear hHeld
   (try go_wp2_with fail)
   go_meet
   exact⟨⟨b5,lv1,z,rfl,HX5z.out,HL5.out,HX4z.out,HTz.out⟩,HX3z.out⟩
 case rest=>
  obtain⟨hd,hb3⟩:=hcut
  obtain⟨b5,lv1,z,rfl,B5,l5,B4,hto⟩:=hd.ex
  have HX5:=Lib.hid B5
  have HL5:=Lib.hid l5
  have HX4c:=Lib.hid B4
  have HTc:=Lib.hid hto
  have q0:=hb3.cell (i:=0) rfl
  have a0:=B5.cell (i:=0) rfl
  clear hd B5 l5 B4 hto
  go_wp2_with fail
  refine(show Calls Tryz.prog 75 #[.pointer (some ⟨i.rb,0,none⟩)] wc _ from u6 {i with lv:=lv1} _ r.recs (jE r.first r.recs r.clock z) KY wc HTc.out.at' (HC.out.seal z)).mono ?_
  rintro e wq ⟨rfl,i',s,t,nk,ts,tn,tt,hrbq,hto⟩
  have HX5q:=Lib.hid (hto.turned.blk HX5.out (HTc.out.at'.notype HX5.out.ty (by decide)))
  have HX4q:=Lib.hid (hto.turned.blk HX4c.out (HTc.out.at'.notype HX4c.out.ty (by decide)))
  have HTS:=Lib.hid ts
  have HTN:=Lib.hid tn
  have HTT:=Lib.hid tt
  have HTq:=Lib.hid (show cS w wq i i' (lU r s t nk)from HTc.out.trans hto)
  have HRBq:=Lib.hid (show i'.rb=i.rb from hrbq)
  clear ts tn tt hto q0 a0 hrbq
  go_wp2_with (first
   |((with_reducible refine ae 101 (.tmp 5) b5 0 ((eF 0)) _ (some 97) (HX5q.out.range) Tryz.underlying101 rfl fD ?hg ?ho ?hds ?hx ?_);(case ho|hg|hds|hx=>rfl))
   |((with_reducible refine af 101 (.tmp 4) (.tmp 97) b4 (eF 0) (eF 0) 101 HX4q.out rfl fD (lS 0) ?hgd ?ho ?hx ?hy ?_);(case hgd|ho|hx|hy=>rfl);(intro w7 B7 o7))
   |fail)
  (try simp only[Exit.inBlock,Exit.then]);refine bodyPost_ret (gG rfl _ _ B7.range rfl Tryz.underlying101 rfl fD) rfl ⟨rfl,i',s,t,nk,HTS.out,HTN.out,HTT.out,HRBq.out,HTq.out.at'.away (o7.turned (S:=[b4]) (by simp)) (fun x hx hm=>HTq.out.at'.notype HX4q.out.ty (by decide) (by simp at hm;rw[←hm];exact hx)),HTq.out.turned.on (o7.turned (S:=[b4]) (by simp)) (fun x hx=>by simp at hx;subst hx;exact .inr HL4.out),HTq.out.foot⟩
def rf (v:bk) (block kb:ByteArray):ao:={({v.d with cs:=v.d.cs++[(4+v.used,block)]}:ao)with cs:=({v.d with cs:=v.d.cs++[(4+v.used,block)]}:ao).cs++[(2+(v.last.epoch+1) % 2,kb)]}
def rh (v:bk) (block kb q:ByteArray):ao:={(rf v block kb).flushed with cs:=(rf v block kb).flushed.cs++[((v.last.gen+1) % 2,q)]}
def FQ (v:bk) (block kb q nb:ByteArray):ao:={(rh v block kb q).flushed with cs:=(rh v block kb q).flushed.cs++[(2+v.last.epoch % 2,nb)]}
theorem u7 {v:bk} {n m:Nat} (h:Calm v.d n m) (u0:0≤v.used) (u1:4+v.used<n) (h4:4≤n) (block kb:ByteArray):Calm (rf v block kb) n (m+2):=
 (h.put (i:=4+v.used) (by omega) (by omega) v.d.cv block).put (i:=2+(v.last.epoch+1) % 2) (by omega) (by omega) v.d.cv kb
theorem u9 {v:bk} {n m:Nat} (h:Calm v.d n m) (u0:0≤v.used) (u1:4+v.used<n) (h4:4≤n) (block kb q:ByteArray):Calm (rh v block kb q) n 1:=
 (u7 h u0 u1 h4 block kb).flushed.put (i:=(v.last.gen+1) % 2) (by omega) (by omega) _ q
theorem vc {v:bk} {n m:Nat} (h:Calm v.d n m) (u0:0≤v.used) (u1:4+v.used<n) (h4:4≤n) (block kb q nb:ByteArray):Calm (FQ v block kb q nb) n 1:=
 (u9 h u0 u1 h4 block kb q).flushed.put (i:=2+v.last.epoch % 2) (by omega) (by omega) _ nb
theorem ri {v:bk} {n m:Nat} (h:Calm v.d n m) (u0:0≤v.used) (u1:4+v.used<n) (h4:4≤n) (block kb q nb:ByteArray):Calm (im v block kb q nb) n 0:=
 (vc h u0 u1 h4 block kb q nb).flushed
end Go.Proofs.YtgimkmclgjfddaaGreat
