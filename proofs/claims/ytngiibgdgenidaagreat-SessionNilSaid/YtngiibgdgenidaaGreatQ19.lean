/- A journal within a volume (chapter 25): Close. An epoch is closed (chapter 26): where there is no ring. -/
import Derived.Test.YtngiibgdgenidaaGreatQ18
import Derived.Test.YtngiibgdgenidaaGreatQ4
import Derived.Test.YtngiibgdgenidaaGreatQ16
import Derived.Test.YtngiibgdgenidaaGreatQ10
import Derived.OrdersHeld
import Derived.Test.YtngiibgdgenidaaGreatQ12
import Derived.Test.YtngiibgdgenidaaGreatQ15
set_option linter.unusedSimpArgs false
set_option linter.unusedVariables false
set_option maxRecDepth 100000
set_option maxHeartbeats 4000000
namespace Go.Proofs.YtngiibgdgenidaaGreat
open Go Go.RowKit
def fO (v:bf) (clock:Int):aD:=⟨v.last.gen+1,v.used+1,v.last.epoch+1,clock,v.last.geo⟩
def jF (v:bf) (block kb q nb:ByteArray):am:=
 ({(({(({v.d with cs:=v.d.cs++[(4+v.used,block)]++[(2+(v.last.epoch+1) % 2,kb)]}:am).flushed)with cs:=[((v.last.gen+1) % 2,q)]}:am).flushed)with cs:=[(2+v.last.epoch % 2,nb)]}:am).flushed
theorem xh (i:aR) (v:bf) (block next:ByteArray) (clock:Int) (w:World) (h:aP w i v) (ok:jt v) (hb:block.size=4096) (hn:next.size=32) (hu:v.used<v.last.geo.blocks-4) (hc0:v.last.clock≤clock) (hc1:clock≤1099511627776) (hg:v.last.gen≠1152921504606846976) (he:v.last.epoch<4294967295):
  Calls Tryz.prog 104 #[.pointer (some ⟨i.jb,0,none⟩), .string block, .string next, .int .i64 clock] w fun e w'=>e= .returned (.tuple #[.int .i64 v.used, .int .i64 0])∧∃kb q nb,ak kb (fi (v.last.epoch+1) next.data.toList)∧ak q (eB (fO v clock))∧nb=(⟨(List.replicate 4096 0).toArray⟩:ByteArray)∧cE w w' i v i {v with used:=v.used+1,last:=fO v clock,d:=jF v block kb q nb}:=by
 have hbi:(block.size:Int)=4096:=by omega
 have hni:(next.size:Int)=32:=by omega
 obtain⟨u,hu0⟩:∃u,v.used=u:=⟨_,rfl⟩
 obtain⟨ep,hep⟩:∃ep,v.last.epoch=ep:=⟨_,rfl⟩
 have he0:0≤ep:=by have:=ok.sup.e0;have:=ok.sup.geo.f0;omega
 obtain⟨m,hm⟩:∃m:Nat,ep+1=(m:Int):=⟨(ep+1).toNat,by omega⟩
 have HSUP:=Lib.hid (show gi (fO v clock)from by
  have g0:=ok.sup.g0
  have g1:=ok.sup.g1
  have c0:=ok.sup.c0
  have e0:=ok.sup.e0
  have u0:=ok.u0
  exact⟨ok.sup.geo,by show 1≤v.last.gen+1;omega,by show v.last.gen+1≤1152921504606846976;omega,by show 0≤v.used+1;omega,by show v.used+1≤v.last.geo.blocks-4;omega,by show v.last.geo.first≤v.last.epoch+1;omega,by show v.last.epoch+1<4294967296;omega,by show 0≤clock;omega,hc1⟩)
 have HNX:=Lib.hid (fun(wx:World)=>lR v.last wx ok.sup hg)
 have HJN:=Lib.hid (fun(wx:World) (v':bf) (hv:aP wx i v') (ho:jt v') (hl:v'.last=v.last)=>zx i v' clock wx hv ho (by rw[hl];exact hg))
 have HU:=Lib.hid hu0
 have HEPV:=Lib.hid hep
 have HM:=Lib.hid hm
 have HUB:=Lib.hid (show 0≤u∧u<v.last.geo.blocks-4 from⟨by rw[←hu0];exact ok.u0,by rw[←hu0];exact hu⟩)
 have HEP:=Lib.hid (show 0≤ep∧ep<4294967295 from⟨he0,by rw[←hep];exact he⟩)
 have hepi:¬(4294967295:Int)≤ep:=by omega
 have HOK:=Lib.hid ok
 have HB:=Lib.hid (And.intro hb hn)
 have HTM:=Lib.hid (And.intro hc0 hc1)
 have H0:=Lib.hid h
 rw[hu0,hep]
 clear hu hu0 ok hb hn hc0 hc1 hg he hep hm h he0
 have h:=H0.out
 go_enter Tryz.func104,Tryz.ntmps104
 go_wp2_with fail
 refine(wU i v _ h).mono ?_
 rintro e w' ⟨rfl,rfl⟩
 go_wp2_with fail
 refine(zw i v clock _ h HTM.out.1 HTM.out.2).mono ?_
 rintro e w' ⟨rfl,rfl⟩
 have c4:w.cell? ⟨i.jb,4,none⟩=some (.int .i64 ep):=by rw[←HEPV.out];exact h.jour.cell (i:=4) rfl
 go_upto_region 7 with fail
 clear c4
 have HR:=Lib.hid (mj h.jour)
 go_wp2_with (first
  |((with_reducible refine ag 174 (.tmp 50) i.jb 2 v.last.cells _ (some 51) HR.out Tryz.underlying174 rfl aZ ?hg ?ho ?hds ?hx ?_);(case ho|hg|hds|hx=>rfl))
  |fail)
 refine(HNX.out _).mono ?_
 rintro e wa ⟨rfl,hba⟩
 have HBa:=Lib.hid hba
 have Ha:=Lib.hid (h.below hba)
 clear hba h
 go_upto_region 8 with(first
  |((with_reducible refine af 174 _ dH (some 12) ?hgd ?ho ?hd ?_);(case hgd|ho|hd=>rfl);(intro b12 w3 l12 B12 e12 z12))
  |((with_reducible refine ae 174 (.tmp 12) (.tmp 53) b12 aD.zero.cells (({v.last with gen:=v.last.gen+1}:aD).cells) 174 B12 rfl aZ (dy _) ?hgd ?ho ?hx ?hy ?_);(case hgd|ho|hx|hy=>rfl);(intro w8 B8 o8))
  |fail)
 have HBE8:=Lib.hid (o8.below (HBa.out.trans (e12.mono (Nat.le_trans HBa.out.size l12))) (Nat.le_trans HBa.out.size l12))
 have H8:=Lib.hid (H0.out.below HBE8.out)
 clear B12 B8 e12 o8 z12 l12
 have c0:=H8.out.jour.cell (i:=0) rfl
 go_wp2_with fail
 refine(pU i.sb v.last.geo u _ (by rw[←HU.out];exact H8.out.space) HOK.out.sup.geo HUB.out.1 HUB.out.2).mono ?_
 rintro e wb ⟨⟨rfl,hs1⟩,ht1⟩
 have HTb:=Lib.hid (cE.ahead HBE8.out (H8.out.take ht1 hs1))
 clear ht1 hs1 c0
 have hm:=HM.out
 have hwm:IntKind.i64.wrap (m:Int)=(m:Int):=IntWalk.i64_in _ (by have:=HEP.out;omega)
 go_wp2_with fail
 refine(jL m next _ (by have:=HEP.out.2;omega) HB.out.2).mono ?_
 rintro e wc ⟨kb,rfl,tk,hbc⟩
 have HTK:=Lib.hid tk
 have HTc:=Lib.hid (HTb.out.below hbc)
 clear tk hbc
 go_upto_region 14 with fail
 refine wp_region_held_drew (S:=fun wx=>wx.cell? ⟨i.jb,1,none⟩=some (.pointer (some ⟨i.db,0,none⟩))) (by kernel_rfl) (HTc.out.at'.jour.drew.cell (i:=1) rfl) (fun hHeld=> ?_)
 obtain⟨wd,hwd⟩:∃wd,wd=wc.drew:=⟨_,rfl⟩
 have HTwd:=Lib.hid (show cE w wd i v i {v with used:=u+1} from by rw[hwd];exact HTc.out.below (Below.refl _ _).drew)
 rw[←hwd]
 rw[←hwd]at hHeld
 clear hwd
 refine hp 0 ?_
 refine hp 1 ?_
 refine hp 2 ?_
 refine hp 3 ?_
 refine hp 5 ?_
 refine hp 7 ?_
 refine hp 8 ?_
 refine hp 9 ?_
 refine hp 11 ?_
 refine hp 13 ?_
 refine hp 14 ?_
 refine hp 15 ?_
 refine hp 16 ?_
 refine hp 17 ?_
 refine wpAnyH_ready (rs:=[4]) (by kernel_rfl) (by simp) ?_
 refine AllReadyH.cons rfl (fun K hK=> ?_) AllReadyH.nil
 go_simp
 refine(mi i.jb i.db _ v.last u _ HTwd.out.at'.jour HOK.out.sup.geo HUB.out.1 HUB.out.2).mono ?_
 rintro e we ⟨rfl,hbe⟩
 have HTwe:=Lib.hid (HTwd.out.below hbe)
 have HLT:=Lib.hid (fun x (hx:x∈v.d.foot i.db)=>Nat.lt_of_lt_of_le (HTwd.out.at'.disk.lt x hx) hbe.size)
 clear hbe
 (try go_wp2_with fail)
 refine hK.out _ _ (HTwe.out.at'.jour.cell (i:=1) rfl) (fun hHeld2=> ?_)
 clear hK K hHeld
 have hHeld:=hHeld2
 clear hHeld2
 (try go_frame)
 refine wpAnyH_ready (rs:=[6]) (by kernel_rfl) (by simp) ?_
 refine AllReadyH.cons rfl (fun K hK=> ?_) AllReadyH.nil
 go_simp
 refine(gX i.jb (4+u) block _).mono ?_
 rintro e wf ⟨⟨p3a,p4a,p5a,rfl,bE,g3,g4,g5⟩,hb3⟩
 have HTwf:=Lib.hid (HTwe.out.below hb3)
 have HSTa:=Lib.hid bE
 have HGa:=Lib.hid (And.intro g3 (And.intro g4 g5))
 have HZwf:=Lib.hid hb3.size
 clear hb3 bE g3 g4 g5
 (try go_wp2_with fail)
 refine hK.out _ _ (HTwf.out.at'.jour.cell (i:=1) rfl) (fun hHeld2=> ?_)
 clear hK K hHeld
 have hHeld:=hHeld2
 clear hHeld2
 (try go_frame)
 refine wpAnyH_ready (rs:=[10]) (by kernel_rfl) (by simp) ?_
 refine AllReadyH.cons rfl (fun K hK=> ?_) AllReadyH.nil
 go_simp
 refine(gq (m:Int) _ (by omega)).mono ?_
 rintro e w' ⟨rfl,rfl⟩
 (try go_wp2_with fail)
 refine hK.out _ _ (HTwf.out.at'.jour.cell (i:=1) rfl) (fun hHeld2=> ?_)
 clear hK K hHeld
 have hHeld:=hHeld2
 clear hHeld2
 (try go_frame)
 refine wpAnyH_ready (rs:=[12]) (by kernel_rfl) (by simp) ?_
 refine AllReadyH.cons rfl (fun K hK=> ?_) AllReadyH.nil
 go_simp
 refine(gX i.jb (2+(m:Int) % 2) kb _).mono ?_
 rintro e wg ⟨⟨p3b,p4b,p5b,rfl,bE,g3,g4,g5⟩,hb3⟩
 have HTwg:=Lib.hid (HTwf.out.below hb3)
 have HSTb:=Lib.hid bE
 have HGb:=Lib.hid (And.intro g3 (And.intro g4 g5))
 have HZwg:=Lib.hid hb3.size
 have HSTa2:=Lib.hid (HSTa.out.below hb3)
 clear hb3 bE g3 g4 g5
 (try go_wp2_with fail)
 refine hK.out _ _ (HTwg.out.at'.jour.cell (i:=1) rfl) (fun hHeld2=> ?_)
 clear hK K hHeld
 have hHeld:=hHeld2
 clear hHeld2
 (try go_frame)
 refine wpAnyH_ready (rs:=[18]) (by kernel_rfl) (by simp) ?_
 refine AllReadyH.cons rfl (fun K hK=> ?_) AllReadyH.nil
 go_simp
 obtain⟨wh,hwh⟩:∃wh,wh=wg.alloc (Obj.cells #[.func (.func 250) #[] #[.pointer (some ⟨p3a,0,none⟩), .pointer (some ⟨p4a,0,none⟩), .pointer (some ⟨p5a,0,none⟩)], .func (.func 250) #[] #[.pointer (some ⟨p3b,0,none⟩), .pointer (some ⟨p4b,0,none⟩), .pointer (some ⟨p5b,0,none⟩)], .func (.func 152) #[.pointer (some ⟨i.db,0,none⟩)] #[]] 48):=⟨_,rfl⟩
 rw[←hwh]
 have hbh:Below wg.heap.size wg wh:=by rw[hwh];exact(Below.refl _ _).alloc (Nat.le_refl _) _
 have HROW:=Lib.hid (show ac wh wg.heap.size [.func (.func 250) #[] #[.pointer (some ⟨p3a,0,none⟩), .pointer (some ⟨p4a,0,none⟩), .pointer (some ⟨p5a,0,none⟩)], .func (.func 250) #[] #[.pointer (some ⟨p3b,0,none⟩), .pointer (some ⟨p4b,0,none⟩), .pointer (some ⟨p5b,0,none⟩)], .func (.func 152) #[.pointer (some ⟨i.db,0,none⟩)] #[]] 48 from by rw[hwh];exact ac.new wg _ _)
 have HTwh:=Lib.hid (HTwg.out.below hbh)
 have HSTa3:=Lib.hid (HSTa2.out.below hbh)
 have HSTb3:=Lib.hid (HSTb.out.below hbh)
 clear hbh hwh
 (try go_wp2_with fail)
 refine hK.out _ _ (HTwh.out.at'.jour.cell (i:=1) rfl) (fun hHeld2=> ?_)
 clear hK K hHeld
 have hHeld:=hHeld2
 clear hHeld2
 (try go_frame)
 refine wpAnyH_ready (rs:=[19]) (by kernel_rfl) (by simp) ?_
 refine AllReadyH.cons rfl (fun K hK=> ?_) AllReadyH.nil
 go_simp
 refine(qU i.jb i.db wg.heap.size 3 v.last.geo.blocks.toNat v.used.toNat p3a p4a p5a (4+u) block p3b p4b p5b (2+(m:Int) % 2) kb 48 v.d _ HTwh.out.at'.disk HROW.out (HTwh.out.at'.jour.cell (i:=1) rfl) HTwh.out.at'.jour.lt HSTa3.out HSTb3.out (by
  intro x hx hm
  have hlt:=HLT.out x hm
  have h1:=HGa.out
  have h2:=HGb.out
  have h3:=HZwf.out
  have h4:=HZwg.out
  rcases hx with rfl|rfl|rfl|rfl|rfl|rfl|rfl|rfl
  ·omega
  ·exact(HTwh.out.at'.jour.ty.notin HTwh.out.at'.disk.tyIn (by decide)) hm
  all_goals omega) HOK.out.calm (by have:=HOK.out.few;omega) HOK.out.blocks ⟨by have:=HUB.out.1;omega,by have:=HUB.out.2;omega⟩ HB.out.1 ⟨by omega,by have:=HOK.out.sup.geo.b0;omega⟩ (by rw[HTK.out.size];exact lH HB.out.2)).mono ?_
 rintro e w2 ⟨rfl,d2,hd2,ht2⟩
 have HD2:=Lib.hid hd2
 have HT2:=Lib.hid (HTwh.out.trans (HTwh.out.at'.disk_to ht2))
 clear ht2 hd2
 (try go_wp2_with fail)
 refine hK.out _ _ (HT2.out.at'.jour.cell (i:=1) rfl) (fun hHeld2=> ?_)
 clear hK K hHeld
 have hHeld:=hHeld2
 clear hHeld2
 (try go_frame)
 refine hp 20 ?_
 refine wpAnyH_done (by kernel_rfl) ?_ _
 clear hHeld
 have HC2:=Lib.hid (show Calm d2 v.last.geo.blocks.toNat 0 from by
  rw[HD2.out]
  have k1:=HOK.out.calm.put (i:=4+u) (by have:=HUB.out;omega) (by have:=HUB.out;omega) v.d.cv block
  have k2:=k1.put (i:=2+(m:Int) % 2) (by omega) (by have:=HOK.out.sup.geo.b0;omega) v.d.cv kb
  exact k2.flushed)
 have HO2:=Lib.hid (show jt {{v with used:=u+1} with d:=d2} from⟨HOK.out.sup,by show 0≤u+1;have:=HUB.out;omega,by show u+1≤v.last.geo.blocks-4;have:=HUB.out;omega,HC2.out.mono (Nat.zero_le _)⟩)
 go_wp2_with fail
 refine(HJN.out _ _ HT2.out.at' HO2.out rfl).mono ?_
 rintro e w3 ⟨rfl,hb3⟩
 have HT3:=Lib.hid (HT2.out.below hb3)
 have HW3:=Lib.hid (show w.heap.size≤w3.heap.size from HT3.out.turned.size)
 have HF3:=Lib.hid (fun x (hx:x∈d2.foot i.db)=>HT3.out.at'.disk.lt x hx)
 have HJ3:=Lib.hid HT3.out.at'.jour.lt
 clear hb3
 go_upto_region 18 with(first
  |((with_reducible refine af 174 _ dH (some 19) ?hgd ?ho ?hd ?_);(case hgd|ho|hd=>rfl);(intro b19 wq l19 B19 e19 z19))
  |((with_reducible refine ae 174 (.tmp 19) (.tmp 106) b19 aD.zero.cells ((⟨v.last.gen+1,u+1,v.last.epoch,clock,v.last.geo⟩:aD).cells) 174 B19 rfl aZ (dy _) ?hgd ?ho ?hx ?hy ?_);(case hgd|ho|hx|hy=>rfl);(intro wr Br or))
  |fail)
 obtain⟨S2,hS2⟩:∃S2,S2=(⟨v.last.gen+1,u+1,(m:Int),clock,v.last.geo⟩:aD):=⟨_,rfl⟩
 have HS2:=Lib.hid (show S2=fO v clock from by rw[hS2];unfold fO;rw[HU.out,HEPV.out,HM.out])
 have HSE:=Lib.hid hS2
 clear hS2
 have HBq:=Lib.hid Br
 have HBEr:=Lib.hid (show Below w3.heap.size w3 wr from or.below (e19.mono l19) l19)
 have HLr:=Lib.hid (show w3.heap.size≤b19 from l19)
 clear B19 Br e19 or z19 l19
 have c2:wr.cell? ⟨b19,2,none⟩=some (.int .i64 v.last.epoch):=HBq.out.cell (i:=2) rfl
 have f2:=HBq.out.free 2
 go_upto_region 19 with fail
 obtain⟨w4,hw4⟩:∃w4,wr.setCell ⟨b19,2,none⟩ (.int .i64 (m:Int))=w4:=⟨_,rfl⟩
 have HB4:=Lib.hid (show ac w4 b19 S2.cells 174 from by rw[←hw4,HSE.out];exact(HBq.out.set 2 _).ext rfl)
 have HT4:=Lib.hid (show cE w w4 i v i {{v with used:=u+1} with d:=d2} from by rw[←hw4];exact HT3.out.below (HBEr.out.setCell (p:=⟨b19,2,none⟩) HLr.out _))
 rw[hw4]
 clear hw4 c2 f2
 go_wp2_with (first
  |((with_reducible refine au 174 (.tmp 19) b19 S2.cells 174 _ HB4.out Tryz.underlying174 rfl aZ ?hgd ?ho ?hx ?_);(case hgd|ho|hx=>rfl))
  |fail)
 refine(mU i.jb i.db (.pointer (some ⟨i.sb,0,none⟩)) d2 v.last S2 _ HT4.out.at'.disk HT4.out.at'.jour (HT4.out.at'.jour.ty.notin HT4.out.at'.disk.tyIn (by decide)) (by rw[HS2.out];exact HSUP.out) HC2.out.up HC2.out.left (by have:=HC2.out.few;omega) (by rw[HC2.out.len];exact HOK.out.blocks) (by rw[HC2.out.len];have:=HOK.out.sup.geo.b0;omega) HC2.out.hin).mono ?_
 rintro e w5 ⟨rfl,d3,q,hd3,tq,hda,hjb,ht5,hf5⟩
 have HD3:=Lib.hid hd3
 have HTQ:=Lib.hid tq
 have HC3:=Lib.hid (show Calm d3 v.last.geo.blocks.toNat 0 from by
  rw[hd3]
  have hcs:d2.cs=[]:=List.eq_nil_of_length_eq_zero (by have:=HC2.out.few;omega)
  have k1:=HC2.out.put (i:=S2.gen % 2) (by omega) (by have:=HOK.out.sup.geo.b0;omega) d2.cv q
  exact k1.flushed)
 have HT5:=Lib.hid (HT4.out.trans (HT4.out.at'.jdisk ht5 (by show S2.geo=v.last.geo;rw[HSE.out]) hda hjb hf5))
 clear hd3 tq hda hjb ht5 hf5
 go_upto_region 22 with fail
 refine wp_region_held_drew (S:=fun wx=>wx.cell? ⟨i.jb,1,none⟩=some (.pointer (some ⟨i.db,0,none⟩))) (by kernel_rfl) (HT5.out.at'.jour.drew.cell (i:=1) rfl) (fun hHeld=> ?_)
 obtain⟨wd,hwd⟩:∃wd,wd=w5.drew:=⟨_,rfl⟩
 have HTx:=Lib.hid (show cE w wd i v i {{{v with used:=u+1} with d:=d2} with d:=d3,last:=S2} from by rw[hwd];exact HT5.out.below (Below.refl _ _).drew)
 rw[←hwd]
 rw[←hwd]at hHeld
 clear hwd
 refine hp 0 ?_
 refine hp 1 ?_
 refine hp 2 ?_
 refine hp 6 ?_
 refine hp 7 ?_
 refine hp 8 ?_
 refine hp 9 ?_
 refine hp 10 ?_
 refine wpAnyH_ready (rs:=[3]) (by kernel_rfl) (by simp) ?_
 refine AllReadyH.cons rfl (fun K hK=> ?_) AllReadyH.nil
 go_simp
 refine(gq ep _ HEP.out.1).mono ?_
 rintro e w' ⟨rfl,rfl⟩
 (try go_wp2_with fail)
 refine hK.out _ _ (HTx.out.at'.jour.cell (i:=1) rfl) (fun hHeld2=> ?_)
 clear hK K hHeld
 have hHeld:=hHeld2
 clear hHeld2
 (try go_frame)
 refine wpAnyH_ready (rs:=[4]) (by kernel_rfl) (by simp) ?_
 refine AllReadyH.cons rfl (fun K hK=> ?_) AllReadyH.nil
 go_simp
 refine(iK _).mono ?_
 rintro e we ⟨rfl,hbe⟩
 obtain⟨nb,hnb⟩:∃nb,nb=(⟨(List.replicate 4096 0).toArray⟩:ByteArray):=⟨_,rfl⟩
 rw[←hnb]
 have HNB:=Lib.hid hnb
 have HTy:=Lib.hid (HTx.out.below hbe)
 have HLT2:=Lib.hid (fun x (hx:x∈d3.foot i.db)=>HTy.out.at'.disk.lt x hx)
 clear hbe hnb
 (try go_wp2_with fail)
 refine hK.out _ _ (HTy.out.at'.jour.cell (i:=1) rfl) (fun hHeld2=> ?_)
 clear hK K hHeld
 have hHeld:=hHeld2
 clear hHeld2
 (try go_frame)
 refine wpAnyH_ready (rs:=[5]) (by kernel_rfl) (by simp) ?_
 refine AllReadyH.cons rfl (fun K hK=> ?_) AllReadyH.nil
 go_simp
 refine(gX i.jb (2+ep % 2) nb _).mono ?_
 rintro e wf2 ⟨⟨p3c,p4c,p5c,rfl,bE,g3,g4,g5⟩,hb3⟩
 have HTwf2:=Lib.hid (HTy.out.below hb3)
 have HSTc:=Lib.hid bE
 have HGc:=Lib.hid (And.intro g3 (And.intro g4 g5))
 have HZwf2:=Lib.hid hb3.size
 clear hb3 bE g3 g4 g5
 (try go_wp2_with fail)
 refine hK.out _ _ (HTwf2.out.at'.jour.cell (i:=1) rfl) (fun hHeld2=> ?_)
 clear hK K hHeld
 have hHeld:=hHeld2
 clear hHeld2
 (try go_frame)
 refine wpAnyH_ready (rs:=[11]) (by kernel_rfl) (by simp) ?_
 refine AllReadyH.cons rfl (fun K hK=> ?_) AllReadyH.nil
 go_simp
 obtain⟨wh,hwh⟩:∃wh,wh=wf2.alloc (Obj.cells #[.func (.func 250) #[] #[.pointer (some ⟨p3c,0,none⟩), .pointer (some ⟨p4c,0,none⟩), .pointer (some ⟨p5c,0,none⟩)], .func (.func 152) #[.pointer (some ⟨i.db,0,none⟩)] #[]] 48):=⟨_,rfl⟩
 rw[←hwh]
 have hbh:Below wf2.heap.size wf2 wh:=by rw[hwh];exact(Below.refl _ _).alloc (Nat.le_refl _) _
 have HROW2:=Lib.hid (show ac wh wf2.heap.size [.func (.func 250) #[] #[.pointer (some ⟨p3c,0,none⟩), .pointer (some ⟨p4c,0,none⟩), .pointer (some ⟨p5c,0,none⟩)], .func (.func 152) #[.pointer (some ⟨i.db,0,none⟩)] #[]] 48 from by rw[hwh];exact ac.new wf2 _ _)
 have HTz:=Lib.hid (HTwf2.out.below hbh)
 have HSTc2:=Lib.hid (HSTc.out.below hbh)
 clear hbh hwh
 (try go_wp2_with fail)
 refine hK.out _ _ (HTz.out.at'.jour.cell (i:=1) rfl) (fun hHeld2=> ?_)
 clear hK K hHeld
 have hHeld:=hHeld2
 clear hHeld2
 (try go_frame)
 refine wpAnyH_ready (rs:=[12]) (by kernel_rfl) (by simp) ?_
 refine AllReadyH.cons rfl (fun K hK=> ?_) AllReadyH.nil
 go_simp
 refine(sM i.jb i.db wf2.heap.size 2 v.last.geo.blocks.toNat 0 p3c p4c p5c (2+ep % 2) nb 48 d3 _ HTz.out.at'.disk HROW2.out (HTz.out.at'.jour.cell (i:=1) rfl) HTz.out.at'.jour.lt HSTc2.out (by
  intro x hx hm
  have hlt:=HLT2.out x hm
  have h1:=HGc.out
  have h3:=HZwf2.out
  rcases hx with rfl|rfl|rfl|rfl|rfl
  ·omega
  ·exact(HTz.out.at'.jour.ty.notin HTz.out.at'.disk.tyIn (by decide)) hm
  all_goals omega) HC3.out (by decide) HOK.out.blocks ⟨by have:=HEP.out.1;omega,by have:=HOK.out.sup.geo.b0;omega⟩ (by rw[HNB.out];simp[ByteArray.size])).mono ?_
 rintro e w6 ⟨rfl,d4,hd4,ht4⟩
 have HD4:=Lib.hid hd4
 have HT6:=Lib.hid (HTz.out.trans (HTz.out.at'.disk_to ht4))
 clear ht4 hd4
 (try go_wp2_with fail)
 refine hK.out _ _ (HT6.out.at'.jour.cell (i:=1) rfl) (fun hHeld2=> ?_)
 clear hK K hHeld
 have hHeld:=hHeld2
 clear hHeld2
 (try go_frame)
 refine hp 13 ?_
 refine wpAnyH_done (by kernel_rfl) ?_ _
 clear hHeld
 go_wp2_with fail
 go_ret2
 have hdd:d4=jF v block kb q nb:=by
  have hg:S2.gen=v.last.gen+1:=by rw[HSE.out]
  rw[HD4.out,HD3.out,hg,HD2.out]
  unfold jF
  rw[HU.out,HEPV.out,HM.out]
  rfl
 have hT:=HT6.out
 rw[hdd,HS2.out]at hT
 refine⟨rfl,kb,q,nb, ?_, ?_,HNB.out,hT⟩
 ·rw[HM.out];exact HTK.out
 ·rw[←HS2.out];exact HTQ.out
structure lS (v:bf):Prop where
 ok:jt v
 key:v.key.size=32
 e0:0≤v.epoch
 e1:v.epoch<4294967295
 room:v.used<v.last.geo.blocks-4
 sealed:v.sealed.length≤1048575
 tame:kh v.sealed
 last:(cT v.sealed).size=32
 c0:v.last.clock≤v.clock
 gen:v.last.gen≠1152921504606846976
 ep:v.last.epoch=v.epoch
 now:v.now≤v.clock
 t0:0≤v.clock
 t1:v.clock≤1099511627776
structure zy (i:aR) (v:bf) (cnt:Int) (l:List UInt8):Prop where
 n0:0≤cnt
 n1:cnt≤4096
 len:l.length=32
 ex:∃T:World→Nat→Prop,
  (∀wx,aP wx i v→Calls Tryz.prog 99 #[.pointer (some ⟨i.vb,0,none⟩), .int .i64 v.epoch] wx fun e w'=>(∃ps,e= .returned (.tuple #[.pointer (some ⟨ps,0,none⟩), .int .i64 0])∧T w' ps)∧Below wx.heap.size wx w')∧
  (∀wx ps,T wx ps→Calls Tryz.prog 101 #[.pointer (some ⟨ps,0,none⟩)] wx fun e w'=>e= .returned (.int .i64 cnt)∧wx=w')∧
  (∀wx ps,T wx ps→Calls Tryz.prog 102 #[.pointer (some ⟨ps,0,none⟩)] wx fun e w'=>(∃s,e= .returned (.string s)∧ak s l)∧Below wx.heap.size wx w')
def aY (v:bf) (cnt:Int) (s:ByteArray):Rec:=⟨1,v.epoch,v.clock,cnt,0,0,s,⟨#[]⟩⟩
theorem xj (e t n:Int) (s:ByteArray):Tryz.prog.built 59 [(0, .int .i64 1),(1, .int .i64 e),(2, .int .i64 t),(3, .int .i64 n),(6, .string s)]=some (Rec.cells ⟨1,e,t,n,0,0,s,⟨#[]⟩⟩).toArray:=by kernel_rfl
theorem jG {v:bf} (h:lS v) {cnt:Int} (n0:0≤cnt) (n1:cnt≤4096) {s:ByteArray} (hs:s.size=32):aE (aY v cnt s)=true:=by
 have h1:=h.e0;have h2:=h.e1;have h3:=h.t0;have h4:=h.t1
 have h5:v.epoch≤4294967295:=by omega
 have h6:ByteArray.size (⟨#[]⟩:ByteArray)=0:=rfl
 simp[aE,aT,aY,hs,h1,h3,h4,h5,h6,n0,n1]
theorem Bi {l:List ax} {x:ax} (h:kh l) (hx:x.r.name.size≤1048576∧x.r.root.size≤1048576∧x.tag.size≤1048576∧Fits x.r.epoch):kh (l++[x]):=by
 intro j y hy
 by_cases hj:j<l.length
 ·rw[List.getElem?_append_left hj]at hy;exact h j y hy
 ·rw[List.getElem?_append_right (by omega)]at hy
  have hxy:y=x:=by
   cases hk:j-l.length with
   |zero=>rw[hk]at hy;simpa using hy.symm
   |succ n=>rw[hk]at hy;simp at hy
  subst hxy
  exact hx
theorem Ty.lt {w:World} {b:Nat} {t:TypeId} (h:Ty w b t):b<w.heap.size:=by
 obtain⟨_,_,h⟩:=h
 exact(Array.getElem?_eq_some_iff.1 h).1
theorem aP.foot_lt {w:World} {i:aR} {v:bf} (h:aP w i v):∀x,x∈i.foot v.d→x<w.heap.size:=by
 intro x hx
 simp only[aR.foot,List.mem_append,List.mem_cons,List.not_mem_nil,or_false,Option.mem_toList,Option.mem_def]at hx
 rcases hx with(rfl|rfl|rfl|rfl|rfl|rfl|rfl|rfl|rfl|rfl)|hx|hx|hx
 ·exact h.vol.lt
 ·exact h.jour.lt
 ·exact h.space.lt
 ·exact h.index.lt
 ·exact h.book.lt
 ·exact h.bclock.lt
 ·exact h.clock.lt
 ·exact h.maps.u.lt
 ·exact h.maps.l.lt
 ·exact h.maps.g.lt
 ·obtain⟨t,_,ht⟩:=h.disk.tyIn x hx
  exact ht.lt
 ·exact(aV h.vers hx).lt
 ·exact(aV h.sealed hx).lt
theorem aP.fresh {w0:World} {i:aR} {v:bf} {b:Nat} (h:aP w0 i v) (hb:w0.heap.size≤b):b∉i.foot v.d:=fun hm=>by
 have:=h.foot_lt b hm
 omega
section
variable {P:Program} {o:Oper} {a:Act} {w:World} {K:Act→World→Prop} {Q:Exit→Act→World→Prop}
theorem dz (t e:TypeId) (len:Nat) (parts:Array (Nat×Operand)) (cells:List Value) (z:Value) (sz byt:Nat)
  (hu:P.underlying t=some (.slice e)) (hi:(P.info? e).map (fun i=>(i.zero,i.size,i.bytes))=some (some z,sz,byt)) (hsm:len*sz≤16777216) (hpos:0<len*sz)
  (ho:o.op= .buildSlice t len parts)
  (hf:Instr.fill (fun i=>some (i*sz,sz)) ((Array.range (len*sz)).map (z.cells[· % z.cells.size]!)) (parts.map fun(i,x)=>(i,a.eval x)).toList=some cells.toArray)
  (h:∀g w',w.heap.size≤g→ac w' g cells e→Below g w w'→g<w'.heap.size→K (a.put o.dst (.slice (some ⟨g,0,none⟩) len len)) w'):o.wp P a w K Q:=by
 cases hie:P.info? e with
 |none=>simp[hie]at hi
 |some ie=>
  simp only[hie,Option.map_some,Option.some.injEq,Prod.mk.injEq]at hi
  obtain⟨h1,h2,_⟩:=hi
  subst h2
  exact wp_buildSlice t e len parts ho cells.toArray ie z hu hie h1 (by omega) (by omega) hf (h _ _ (Nat.le_refl _) (ac.new w cells e) ((Below.refl _ _).alloc (Nat.le_refl _) _) (by simp))
end
theorem qa {w:World} {b:Nat} {r:Rec} {t:ByteArray} (h:w.rangeAt b 0 (ax.cells ⟨r,t⟩)):w.rangeAt b 0 r.cells:=fun j u hu=>h j u (by
 show(r.cells++[.string t])[j]?=some u
 rw[List.getElem?_append_left (List.getElem?_eq_some_iff.1 hu).1]
 exact hu)
theorem Ft {w:World} {i:aR} {v:bf} (h:aP w i v):i.bb≠i.c2:=fun e=>absurd (show 234=231 from(e ▸ h.book.ty).eq h.bclock.ty) (by decide)
theorem zz {w:World} {i:aR} {v:bf} (h:aP w i v) (k:Nat) (x:Value):(w.setCell ⟨i.vb,k,none⟩ x).ownsRow 0 61 9 i.sv v.sealed.length (dP v.sealed):=
 aB h.sealed ((ab.refl [i.vb] w).setCell (.inl (by simp)) k x) (fun k hk=>(aV h.sealed hk).notin (bZ.one h.vol.ty) (by decide))
theorem qb (i:aR) (v:bf) (cnt:Int) (l:List UInt8) (w:World) (h:aP w i v) (hrv:i.rv= .pointer none) (hc:lS v) (hsc:zy i v cnt l):
  Calls Tryz.prog 54 #[.pointer (some ⟨i.vb,0,none⟩)] w fun e w'=>∃(s t bl nk kb q nb:ByteArray) (sv:Value),ak s l∧ak t (lw v.key.data.toList (cT v.sealed).data.toList (v.sealed.length:Int) (aY v cnt s))∧ak bl (holdL (cz (aY v cnt s)++t.data.toList))∧ak nk (dw v.key.data.toList [110,101,120,116] [])∧ak kb (fi (v.last.epoch+1) nk.data.toList)∧ak q (eB (fO v v.clock))∧nb=(⟨(List.replicate 4096 0).toArray⟩:ByteArray)∧
   e= .returned (.tuple #[(gA (v.sealed++[⟨aY v cnt s,t⟩]) (v.sealed.length:Int)).1.v, .int .i64 (gA (v.sealed++[⟨aY v cnt s,t⟩]) (v.sealed.length:Int)).2])∧
   cE w w' i v {i with sv:=sv} {v with used:=v.used+1,last:=fO v v.clock,d:=jF v bl kb q nb,key:=nk,sealed:=v.sealed++[⟨aY v cnt s,t⟩],epoch:=v.epoch+1,now:=v.clock}:=by
 have H0:=Lib.hid h
 have HC:=Lib.hid hc
 have HRV:=Lib.hid hrv
 have HE1:=Lib.hid (show v.epoch<4294967295 from hc.e1)
 have HNN:=Lib.hid (show 0≤cnt∧cnt≤4096 from⟨hsc.n0,hsc.n1⟩)
 have HLL:=Lib.hid hsc.len
 obtain⟨T,t1,t2,t3⟩:=hsc.ex
 have HT1:=Lib.hid t1
 have HT2:=Lib.hid t2
 have HT3:=Lib.hid t3
 clear t1 t2 t3 hsc
 have hge:¬(4294967295:Int)≤v.epoch:=by have:=hc.e1;omega
 clear h hc hrv
 go_enter Tryz.func54,Tryz.ntmps54
 go_wp2_with (first
  |((with_reducible refine af 71 _ iC (some 2) ?hgd ?ho ?hd ?_);(case hgd|ho|hd=>rfl);(intro b2 w1 l1 B1 e1 z1))
  |fail)
 have HB1:=Lib.hid B1
 have HL1:=Lib.hid l1
 have HBE1:=Lib.hid (e1.mono l1)
 have H1:=Lib.hid (H0.out.below HBE1.out)
 clear B1 e1 z1 l1
 refine(eC i v _ H1.out).mono ?_
 rintro e w' ⟨rfl,rfl⟩
 have c5:w1.cell? ⟨i.vb,5,none⟩=some (.pointer (some ⟨i.bb,0,none⟩)):=H1.out.vol.cell (i:=5) rfl
 go_wp2_with fail
 refine(eK i.bb i.c2 v.first v.epoch i.m1 i.m2 i.m3 _ H1.out.book).mono ?_
 rintro e w' ⟨rfl,rfl⟩
 have c0:w1.cell? ⟨i.vb,0,none⟩=some (.pointer (some ⟨i.jb,0,none⟩)):=H1.out.vol.cell (i:=0) rfl
 have j0:w1.cell? ⟨i.jb,0,none⟩=some (.pointer (some ⟨i.sb,0,none⟩)):=H1.out.jour.cell (i:=0) rfl
 go_wp2_with fail
 refine(lP i.sb v.last.geo v.used _ H1.out.space HC.out.ok.sup.geo).mono ?_
 rintro e w2 ⟨rfl,hb2⟩
 rw[decide_eq_true HC.out.room]
 have HB2:=Lib.hid (HB1.out.below hb2 HB1.out.lt)
 have HBE2:=Lib.hid (HBE1.out.trans (hb2.mono HBE1.out.size))
 have H2:=Lib.hid (H1.out.below hb2)
 clear hb2 c5 c0 j0
 go_wp2_with fail
 refine(HT1.out _ H2.out).mono ?_
 rintro e w3 ⟨⟨ps,rfl,hs3⟩,hb3⟩
 have HS3:=Lib.hid hs3
 have HB3:=Lib.hid (HB2.out.below hb3 HB2.out.lt)
 have HBE3:=Lib.hid (HBE2.out.trans (hb3.mono HBE2.out.size))
 have H3:=Lib.hid (H2.out.below hb3)
 clear hb3 hs3
 have c6:w3.cell? ⟨i.vb,6,none⟩=some (.pointer (some ⟨i.cb,0,none⟩)):=H3.out.vol.cell (i:=6) rfl
 go_wp2_with fail
 refine(im i.cb v.clock _ H3.out.clock).mono ?_
 rintro e w' ⟨rfl,rfl⟩
 go_wp2_with fail
 refine(HT2.out _ ps HS3.out).mono ?_
 rintro e w' ⟨rfl,rfl⟩
 go_wp2_with fail
 refine(HT3.out _ ps HS3.out).mono ?_
 rintro e w4 ⟨⟨s,rfl,ts⟩,hb4⟩
 have HTS:=Lib.hid ts
 have HB4:=Lib.hid (HB3.out.below hb4 HB3.out.lt)
 have HBE4:=Lib.hid (HBE3.out.trans (hb4.mono HBE3.out.size))
 have H4:=Lib.hid (H3.out.below hb4)
 clear hb4 ts c6
 go_wp2_with (first
  |((with_reducible refine ao 59 ?parts57 (Rec.cells (aY v cnt s)) ?hg ?ho ?hf ?_);(case hg|ho=>rfl);(case hf=>exact xj _ _ _ _))
  |fail)
 refine(Bh i v (aY v cnt s) _ H4.out HRV.out HC.out.key ⟨HC.out.last,by omega,by have:=HC.out.sealed;omega,jG HC.out HNN.out.1 HNN.out.2 (by rw[HTS.out.size,HLL.out])⟩ (by show s.size≤1048576;rw[HTS.out.size,HLL.out];omega) (by show(0:Nat)≤1048576;omega) (by have:=HC.out.e0;have:=HC.out.e1;show Fits v.epoch;unfold Fits;omega) (by have:=HC.out.sealed;omega)).mono ?_
 rintro e w5 ⟨⟨t,bl,rfl,tt,tb⟩,hb5⟩
 have HTT:=Lib.hid tt
 have HTB:=Lib.hid tb
 have HB5:=Lib.hid (HB4.out.below hb5 HB4.out.lt)
 have HBE5:=Lib.hid (HBE4.out.trans (hb5.mono HBE4.out.size))
 have H5:=Lib.hid (H4.out.below hb5)
 have HHL:=Lib.hid (show(cz (aY v cnt s)++t.data.toList).length≤4000 from by
  have h1:=cP (jG HC.out HNN.out.1 HNN.out.2 (by rw[HTS.out.size,HLL.out]:s.size=32))
  have h2:t.data.toList.length=32:=by rw[show t.data.toList= _ from tt,fg]
  rw[List.length_append];omega)
 have HTAME:=Lib.hid (show kh (v.sealed++[⟨aY v cnt s,t⟩])from Bi HC.out.tame ⟨by show(0:Nat)≤1048576;omega,by show s.size≤1048576;rw[HTS.out.size,HLL.out];omega,by show t.size≤1048576;rw[HTT.out.size,fg];omega,by have:=HC.out.e0;have:=HC.out.e1;show Fits v.epoch;unfold Fits;omega⟩)
 clear hb5 tt tb
 have hxr:(⟨aY v cnt s,t⟩:ax)=⟨aY v cnt s,t⟩:=rfl
 clear hxr
 go_upto_region 10 with(first
  |((with_reducible refine af 61 _ uL (some 7) ?hgd ?ho ?hd ?_);(case hgd|ho|hd=>rfl);(intro b7 w6 l6 B6 e6 z6))
  |((with_reducible refine ae 61 (.tmp 7) (.tmp 59) b7 (ax.cells ⟨Rec.zero,⟨#[]⟩⟩) (ax.cells ⟨aY v cnt s,t⟩) 61 B6 rfl mq (nW _) ?hgd ?ho ?hx ?hy ?_);(case hgd|ho|hx|hy=>rfl);(intro w7 B7 o7))
  |fail)
 have hb7:Below w5.heap.size w5 w7:=o7.below (e6.mono l6) l6
 have HL7:=Lib.hid (show w5.heap.size≤b7 from l6)
 have HX7:=Lib.hid B7
 have HB7:=Lib.hid (HB5.out.below hb7 HB5.out.lt)
 have HBE7:=Lib.hid (HBE5.out.trans (hb7.mono HBE5.out.size))
 have H7:=Lib.hid (H5.out.below hb7)
 clear B6 B7 e6 z6 o7 l6 hb7
 have hwe:IntKind.i64.wrap (v.epoch+1)=v.epoch+1:=IntWalk.i64_in _ (by have:=HC.out.e0;have:=HC.out.e1;omega)
 refine wp_region_held_drew (S:=fun wx=>wx.cell? ⟨i.vb,7,none⟩=some (.pointer none)∧wx.cell? ⟨i.vb,1,none⟩=some (.string v.key)) (by kernel_rfl) (⟨(by rw[←HRV.out];exact H7.out.vol.drew.cell (i:=7) rfl),H7.out.vol.drew.cell (i:=1) rfl⟩) (fun hHeld=> ?_)
 obtain⟨wd,hwd⟩:∃wd,wd=w7.drew:=⟨_,rfl⟩
 have hbd:Below w7.heap.size w7 wd:=by rw[hwd];exact(Below.refl _ _).drew
 have Hd:=Lib.hid (H7.out.below hbd)
 have HXd:=Lib.hid (HX7.out.below hbd HX7.out.lt)
 have HBd:=Lib.hid (HB7.out.below hbd HB7.out.lt)
 have HBEd:=Lib.hid (HBE7.out.trans (hbd.mono HBE7.out.size))
 rw[←hwd]
 rw[←hwd]at hHeld
 clear hwd hbd
 refine hp 0 ?_
 refine hp 1 ?_
 refine hp 2 ?_
 refine hp 3 ?_
 refine hp 4 ?_
 refine hp 5 ?_
 refine hp 6 ?_
 refine hp 7 ?_
 refine hp 8 ?_
 refine hp 9 ?_
 refine wpAnyH_ready (rs:=[10]) (by kernel_rfl) (by simp) ?_
 refine AllReadyH.cons rfl (fun K hK=> ?_) AllReadyH.nil
 go_simp
 refine(sP (v.epoch+1) v.key _ HC.out.key).mono ?_
 rintro e we ⟨⟨nk,rfl,tn⟩,hbe⟩
 have HTN:=Lib.hid tn
 have He:=Lib.hid (Hd.out.below hbe)
 have HXe:=Lib.hid (HXd.out.below hbe HXd.out.lt)
 have HBe:=Lib.hid (HBd.out.below hbe HBd.out.lt)
 have HBEe:=Lib.hid (HBEd.out.trans (hbe.mono HBEd.out.size))
 clear hbe tn
 (try go_wp2_with fail)
 refine hK.out _ _ (⟨(by rw[←HRV.out];exact He.out.vol.cell (i:=7) rfl),He.out.vol.cell (i:=1) rfl⟩) (fun hHeld2=> ?_)
 clear hK K hHeld
 have hHeld:=hHeld2
 clear hHeld2
 (try go_frame)
 refine hp 11 ?_
 refine wpAnyH_done (by kernel_rfl) ?_ _
 clear hHeld
 go_upto_region 11 with fail
 refine wp_region_held_drew (S:=fun wx=>wx.cell? ⟨i.vb,0,none⟩=some (.pointer (some ⟨i.jb,0,none⟩))∧wx.cell? ⟨i.vb,6,none⟩=some (.pointer (some ⟨i.cb,0,none⟩))) (by kernel_rfl) (⟨He.out.vol.drew.cell (i:=0) rfl,He.out.vol.drew.cell (i:=6) rfl⟩) (fun hHeld=> ?_)
 obtain⟨wg,hwg⟩:∃wg,wg=we.drew:=⟨_,rfl⟩
 have hbg:Below we.heap.size we wg:=by rw[hwg];exact(Below.refl _ _).drew
 have Hg:=Lib.hid (He.out.below hbg)
 have HXg:=Lib.hid (HXe.out.below hbg HXe.out.lt)
 have HBg:=Lib.hid (HBe.out.below hbg HBe.out.lt)
 have HBEg:=Lib.hid (HBEe.out.trans (hbg.mono HBEe.out.size))
 rw[←hwg]
 rw[←hwg]at hHeld
 clear hwg hbg
 refine hp 0 ?_
 refine hp 1 ?_
 refine hp 2 ?_
 refine hp 3 ?_
 refine hp 4 ?_
 refine hp 5 ?_
 refine hp 6 ?_
 refine hp 7 ?_
 refine hp 8 ?_
 refine hp 9 ?_
 refine wpAnyH_ready (rs:=[10]) (by kernel_rfl) (by simp) ?_
 refine AllReadyH.cons rfl (fun K hK=> ?_) AllReadyH.nil
 go_simp
 refine(im i.cb v.clock _ Hg.out.clock).mono ?_
 rintro e w' ⟨rfl,rfl⟩
 (try go_wp2_with fail)
 refine hK.out _ _ (⟨Hg.out.vol.cell (i:=0) rfl,Hg.out.vol.cell (i:=6) rfl⟩) (fun hHeld2=> ?_)
 clear hK K hHeld
 have hHeld:=hHeld2
 clear hHeld2
 (try go_frame)
 refine wpAnyH_ready (rs:=[11]) (by kernel_rfl) (by simp) ?_
 refine AllReadyH.cons rfl (fun K hK=> ?_) AllReadyH.nil
 go_simp
 refine(xh i v bl nk v.clock _ Hg.out HC.out.ok (by rw[HTB.out.size];exact uw _ HHL.out) (by rw[HTN.out.size,fE]) HC.out.room HC.out.c0 HC.out.t1 HC.out.gen (by rw[HC.out.ep];exact HC.out.e1)).mono ?_
 rintro e wh ⟨rfl,kb,q,nb,tk,tq,hnb,ht⟩
 have HTK:=Lib.hid tk
 have HTQ:=Lib.hid tq
 have HNB:=Lib.hid hnb
 have HXh:=Lib.hid (ht.turned.blk HXg.out (H5.out.fresh HL7.out))
 have HBh:=Lib.hid (ht.turned.blk HBg.out (H0.out.fresh HL1.out))
 have HTO:=Lib.hid (cE.ahead HBEg.out ht)
 clear ht tk tq hnb
 (try go_wp2_with fail)
 refine hK.out _ _ (⟨HTO.out.at'.vol.cell (i:=0) rfl,HTO.out.at'.vol.cell (i:=6) rfl⟩) (fun hHeld2=> ?_)
 clear hK K hHeld
 have hHeld:=hHeld2
 clear hHeld2
 (try go_frame)
 refine hp 12 ?_
 refine hp 13 ?_
 refine hp 14 ?_
 refine hp 15 ?_
 refine hp 16 ?_
 refine wpAnyH_done (by kernel_rfl) ?_ _
 clear hHeld
 have f1:=HTO.out.at'.vol.free 1
 have x1:=HTO.out.at'.vol.cell (i:=1) rfl
 go_upto_region 15 with fail
 have ht2:ab [i.vb] wh (wh.setCell ⟨i.vb,1,none⟩ (.string nk)):=(ab.refl _ _).setCell (.inl (by simp)) 1 _
 have HN7:=Lib.hid (H5.out.fresh HL7.out)
 have HN2:=Lib.hid (H0.out.fresh HL1.out)
 have hn7:b7∉[i.vb]:=fun hm=>HN7.out (by simp at hm;rw[hm];simp[aR.foot])
 have hn2:b2∉[i.vb]:=fun hm=>HN2.out (by simp at hm;rw[hm];simp[aR.foot])
 have HXi:=Lib.hid (ht2.blk HXh.out hn7)
 have HBi:=Lib.hid (ht2.blk HBh.out hn2)
 have HTi:=Lib.hid (HTO.out.trans (HTO.out.at'.own (key:=nk) (sv:=i.sv) (l:=v.sealed) (ht2.mono (fun x hx=>by simp at hx;subst hx;simp)) (HTO.out.at'.vol.set 1 (.string nk)) (zz HTO.out.at' 1 (.string nk)) (fun k hk=> .inl hk)))
 obtain⟨wi,hwi⟩:∃wi,wi=wh.setCell ⟨i.vb,1,none⟩ (.string nk):=⟨_,rfl⟩
 rw[←hwi]at HXi HBi HTi
 rw[←hwi]
 clear hwi f1 x1 ht2 hn7 hn2 HTO HXh HBh
 refine wp_region_held_drew (S:=fun wx=>wx.rangeAt b7 0 (aY v cnt s).cells∧wx.cell? ⟨i.vb,5,none⟩=some (.pointer (some ⟨i.bb,0,none⟩))) (by kernel_rfl) (⟨qa HXi.out.drew.range,HTi.out.at'.vol.drew.cell (i:=5) rfl⟩) (fun hHeld=> ?_)
 obtain⟨wj,hwj⟩:∃wj,wj=wi.drew:=⟨_,rfl⟩
 have hbj:Below wi.heap.size wi wj:=by rw[hwj];exact(Below.refl _ _).drew
 have HXj:=Lib.hid (HXi.out.below hbj HXi.out.lt)
 have HBj:=Lib.hid (HBi.out.below hbj HBi.out.lt)
 have HTj:=Lib.hid (HTi.out.below hbj)
 rw[←hwj]
 rw[←hwj]at hHeld
 clear hwj hbj
 refine hp 0 ?_
 refine hp 1 ?_
 refine hp 2 ?_
 refine hp 3 ?_
 refine hp 4 ?_
 refine wpAnyH_take (i:=5) (v:= .agg ((aY v cnt s).cells).toArray) rfl (by kernel_rfl) (by kernel_rfl) (by kernel_rfl) (fun _ _ _ h=>h) (yieldsIf_load_mid (by rfl) 59 (.tmp 99) rfl b7 0 rfl ((aY v cnt s).cells) _ (fun w h=>h.1) Tryz.underlying59 rfl aS) (by assumption) ?_
 (try go_frame)
 refine wpAnyH_ready (rs:=[6]) (by kernel_rfl) (by simp) ?_
 refine AllReadyH.cons rfl (fun K hK=> ?_) AllReadyH.nil
 go_simp
 refine(oK i.bb i.c2 i.m1 i.m2 i.m3 v.n v.first v.epoch v.now v.U v.L v.G (aY v cnt s) _ HTj.out.at'.book HTj.out.at'.bclock HTj.out.at'.maps rfl (jG HC.out HNN.out.1 HNN.out.2 (by rw[HTS.out.size,HLL.out])) rfl HC.out.now (Ft HTj.out.at')).mono ?_
 rintro e wk ⟨⟨rfl,hbk,hck⟩,htk⟩
 have HXk:=Lib.hid (htk.blk HXj.out (fun hm=>HN7.out (by simp at hm;rcases hm with hm|hm<;>(rw[hm];simp[aR.foot]))))
 have HBk:=Lib.hid (htk.blk HBj.out (fun hm=>HN2.out (by simp at hm;rcases hm with hm|hm<;>(rw[hm];simp[aR.foot]))))
 have HTk:=Lib.hid (HTj.out.trans (HTj.out.at'.closed htk hbk hck))
 clear hbk hck htk
 (try go_wp2_with fail)
 refine hK.out _ _ (⟨qa HXk.out.range,HTk.out.at'.vol.cell (i:=5) rfl⟩) (fun hHeld2=> ?_)
 clear hK K hHeld
 have hHeld:=hHeld2
 clear hHeld2
 (try go_frame)
 refine wpAnyH_done (by kernel_rfl) ?_ _
 clear hHeld
 go_upto_region 16 with fail
 refine wp_region_held_drew (S:=fun wx=>wx.rangeAt b7 0 (ax.cells ⟨aY v cnt s,t⟩)) (by kernel_rfl) (HXk.out.drew.range) (fun hHeld=> ?_)
 obtain⟨wl,hwl⟩:∃wl,wl=wk.drew:=⟨_,rfl⟩
 have hbl:Below wk.heap.size wk wl:=by rw[hwl];exact(Below.refl _ _).drew
 have HXl:=Lib.hid (HXk.out.below hbl HXk.out.lt)
 have HBl:=Lib.hid (HBk.out.below hbl HBk.out.lt)
 have HTl:=Lib.hid (HTk.out.below hbl)
 rw[←hwl]
 rw[←hwl]at hHeld
 clear hwl hbl
 refine hp 0 ?_
 refine hp 1 ?_
 refine hp 2 ?_
 refine hp 3 ?_
 refine wpAnyH_take (i:=5) (v:= .agg ((ax.cells ⟨aY v cnt s,t⟩)).toArray) rfl (by kernel_rfl) (by kernel_rfl) (by kernel_rfl) (fun _ _ _ h=>h) (yieldsIf_load_mid (by rfl) 61 (.tmp 7) rfl b7 0 rfl ((ax.cells ⟨aY v cnt s,t⟩)) _ (fun w h=>h) Tryz.underlying61 rfl mq) (by assumption) ?_
 (try go_frame)
 obtain⟨i0,hi,hz0,hz1,hz2⟩:=info_parts jf
 refine wpAnyH_ready (rs:=[4,6]) (by kernel_rfl) (by simp) ?_
 refine AllReadyH.cons rfl (fun K hK=> ?_) (AllReadyH.cons rfl (fun K hK=> ?_) AllReadyH.nil)
 ·have c4:wl.cell? ⟨i.vb,4,none⟩=some i.sv:=HTl.out.at'.vol.cell (i:=4) rfl
  go_simp
  clear c4
  refine hK.out _ _ (HXl.out.range) (fun hHeld2=> ?_)
  clear hK K hHeld
  have hHeld:=hHeld2
  clear hHeld2
  (try go_frame)
  refine wpAnyH_ready (rs:=[6]) (by kernel_rfl) (by simp) ?_
  refine AllReadyH.cons rfl (fun K hK=> ?_) AllReadyH.nil
  refine dz 106 61 1 _ (ax.cells ⟨aY v cnt s,t⟩) (.agg (ax.cells ⟨Rec.zero,⟨#[]⟩⟩).toArray) 9 96 Tryz.underlying106 jf (by omega) (by omega) rfl (by kernel_rfl) ?_
  intro g8 w8 l8 B8 e8 z8
  have hb8:Below wl.heap.size wl w8:=e8.mono l8
  have HG8:=Lib.hid B8
  have HX8:=Lib.hid (HXl.out.below hb8 HXl.out.lt)
  have HB8:=Lib.hid (HBl.out.below hb8 HBl.out.lt)
  have HT8:=Lib.hid (HTl.out.below hb8)
  clear B8 e8 z8 hb8 l8
  refine hK.out _ _ (HX8.out.range) (fun hHeld2=> ?_)
  clear hK K hHeld
  have hHeld:=hHeld2
  clear hHeld2
  (try go_frame)
  refine wpAnyH_ready (rs:=[7]) (by kernel_rfl) (by simp) ?_
  refine AllReadyH.cons rfl (fun K hK=> ?_) AllReadyH.nil
  refine dh _ _ 106 rfl i0 (.agg (ax.cells ⟨Rec.zero,⟨#[]⟩⟩).toArray) 96 Tryz.underlying106 hi hz0 hz1 hz2 rfl (by decide) rfl HT8.out.at'.sealed ⟨g8,0,none⟩ 1 1 (ax.cells ⟨aY v cnt s,t⟩) rfl rfl (cj HG8.out) (nW _) (by have:=HC.out.sealed;show v.sealed.length+1≤maxLen;unfold maxLen;omega) (by have:=HC.out.sealed;show(v.sealed.length+1)*96≤140737488355328;omega) (Nat.zero_le _) ?_
  intro v' w9 own9 grow9' near9'
  have grow9:w8.grownBy w9 i.sv.ownBlock:=grow9'
  have near9:fC w8 i.sv.ownBlock v'.ownBlock:=near9'
  clear grow9' near9'
  have HX9:=Lib.hid (HX8.out.grown grow9 (fun e=>HN7.out (by simp only[aR.foot,List.mem_append,Option.mem_toList,Option.mem_def];exact .inr (.inr (.inr e.symm)))))
  have HB9:=Lib.hid (HB8.out.grown grow9 (fun e=>HN2.out (by simp only[aR.foot,List.mem_append,Option.mem_toList,Option.mem_def];exact .inr (.inr (.inr e.symm)))))
  have HV9:=Lib.hid (HT8.out.at'.vol.grown grow9 (fun e=>absurd (show 61=156 from(aV HT8.out.at'.sealed e.symm).eq HT8.out.at'.vol.ty) (by decide)))
  obtain⟨p9,q9,hsh⟩:=aQ own9
  subst hsh
  have HO9:=Lib.hid own9
  have HGR:=Lib.hid grow9
  have HNE:=Lib.hid near9
  clear own9 grow9 near9
  refine hK.out _ _ (HX9.out.range) (fun hHeld2=> ?_)
  clear hK K hHeld
  have hHeld:=hHeld2
  clear hHeld2
  (try go_frame)
  refine hp 8 ?_
  refine hp 9 ?_
  have c4:=HV9.out.cell (i:=4) rfl
  have f4:=HV9.out.free 4
  refine wpAnyH_ready (rs:=[10]) (by kernel_rfl) (by simp) ?_
  refine AllReadyH.cons rfl (fun K hK=> ?_) AllReadyH.nil
  go_simp
  have HX10:=Lib.hid (HX9.out.set_other (a:=⟨i.vb,4,none⟩) (fun e=>HN7.out (by rw[e];simp[aR.foot])) (.slice p9 (v.sealed.length+1) q9))
  have HB10:=Lib.hid (HB9.out.set_other (a:=⟨i.vb,4,none⟩) (fun e=>HN2.out (by rw[e];simp[aR.foot])) (.slice p9 (v.sealed.length+1) q9))
  refine hK.out _ _ (HX10.out.range) (fun hHeld2=> ?_)
  clear hK K hHeld
  have hHeld:=hHeld2
  clear hHeld2
  (try go_frame)
  refine wpAnyH_done (by kernel_rfl) ?_ _
  clear hHeld c4 f4
  have HT10:=Lib.hid (HT8.out.trans (HT8.out.at'.own (key:=nk) (sv:=(.slice p9 (v.sealed.length+1) q9)) (l:=v.sealed++[⟨aY v cnt s,t⟩]) ((ab.of_grown HGR.out (fun k hk=>by simp[hk])).setCell (.inl (by simp)) 4 (.slice p9 (v.sealed.length+1) q9)) (HV9.out.set 4 (.slice p9 (v.sealed.length+1) q9)) (by rw[List.length_append,pQ];exact aB HO9.out ((ab.refl [i.vb] w9).setCell (.inl (by simp)) 4 (.slice p9 (v.sealed.length+1) q9)) (fun k hk=>(aV HO9.out hk).notin (bZ.one HV9.out.ty) (by decide))) (fun k hk=>HNE.out.elim (fun e=> .inl (by rw[←e];exact hk)) (fun f=> .inr (f k hk)))))
  obtain⟨w10,hw10⟩:∃w10,w10=w9.setCell ⟨i.vb,4,none⟩ (.slice p9 (v.sealed.length+1) q9):=⟨_,rfl⟩
  rw[←hw10]at HT10 HB10
  rw[←hw10]
  clear hw10 HV9 HO9 HGR HNE HX9 HB9 HX10
  go_upto_region 17 with fail
  have hw17:IntKind.i64.wrap (v.sealed.length:Int)=(v.sealed.length:Int):=IntWalk.i64_in _ (by have:=HC.out.sealed;omega)
  have hw18:IntKind.i64.wrap ((v.sealed.length:Int)+1-1)=(v.sealed.length:Int):=by rw[IntWalk.i64_in _ (by have:=HC.out.sealed;omega)];omega
  refine wp_region_held_drew (S:=fun wx=>wx.cell? ⟨i.vb,4,none⟩=some (.slice p9 (v.sealed.length+1) q9)) (by kernel_rfl) (HT10.out.at'.vol.drew.cell (i:=4) rfl) (fun hHeld=> ?_)
  obtain⟨wm,hwm⟩:∃wm,wm=w10.drew:=⟨_,rfl⟩
  have hbm:Below w10.heap.size w10 wm:=by rw[hwm];exact(Below.refl _ _).drew
  have HTm:=Lib.hid (HT10.out.below hbm)
  have HBm:=Lib.hid (HB10.out.below hbm HB10.out.lt)
  rw[←hwm]
  rw[←hwm]at hHeld
  clear hwm hbm
  refine hp 0 ?_
  refine hp 1 ?_
  refine hp 2 ?_
  refine hp 3 ?_
  refine hp 4 ?_
  refine hp 5 ?_
  refine hp 6 ?_
  refine hp 7 ?_
  refine hp 8 ?_
  refine hp 9 ?_
  refine wpAnyH_ready (rs:=[10]) (by kernel_rfl) (by simp) ?_
  refine AllReadyH.cons rfl (fun K hK=> ?_) AllReadyH.nil
  go_simp
  refine(rS (.slice p9 (v.sealed.length+1) q9) (v.sealed++[⟨aY v cnt s,t⟩]) (v.sealed.length:Int) _ (cH.own (n:=v.sealed.length+1) (by have h9:=HTm.out.at'.sealed;simp only[List.length_append,List.length_cons,List.length_nil,Nat.zero_add]at h9;exact h9) (by simp)) (by rw[List.length_append];have:=HC.out.sealed;show v.sealed.length+1≤1048576;omega) HTAME.out).mono ?_
  rintro e wn ⟨he,hbn⟩
  unfold nT at he
  obtain⟨R,hR⟩:∃R,gA (v.sealed++[⟨aY v cnt s,t⟩]) (v.sealed.length:Int)=R:=⟨_,rfl⟩
  rw[hR]at he
  subst he
  have HR:=Lib.hid hR
  have HTn:=Lib.hid (HTm.out.below hbn)
  have HBn:=Lib.hid (HBm.out.below hbn HBm.out.lt)
  clear hbn hR
  (try go_wp2_with fail)
  refine hK.out _ _ (HTn.out.at'.vol.cell (i:=4) rfl) (fun hHeld2=> ?_)
  clear hK K hHeld
  have hHeld:=hHeld2
  clear hHeld2
  (try go_frame)
  refine hp 11 ?_
  refine hp 12 ?_
  refine wpAnyH_ready (rs:=[13]) (by kernel_rfl) (by simp) ?_
  refine AllReadyH.cons rfl (fun K hK=> ?_) AllReadyH.nil
  refine fG 71 (.tmp 2) (.tmp 123) b2 aH.zero.cells R.1.cells 71 HBn.out rfl bI (aH.cells_one _) rfl rfl rfl ?_
  intro wo Bo oo
  have HTo:=Lib.hid (HTn.out.away (oo.turned (by simp)) (HTn.out.at'.notype HBn.out.ty (by decide)) HL1.out)
  refine hK.out _ _ (HTo.out.at'.vol.cell (i:=4) rfl) (fun hHeld2=> ?_)
  clear hK K hHeld
  have hHeld:=hHeld2
  clear hHeld2
  (try go_frame)
  refine hp 14 ?_
  refine wpAnyH_done (by kernel_rfl) ?_ _
  clear hHeld
  (try go_wp2_with fail)
  (try simp only[Exit.inBlock,Exit.then]);refine bodyPost_ret (aL rfl _ _ Bo.range rfl Tryz.underlying71 rfl bI) rfl ⟨s,t,bl,nk,kb,q,nb,(.slice p9 (v.sealed.length+1) q9),HTS.out,HTT.out,HTB.out,HTN.out,HTK.out,HTQ.out,HNB.out,by rw[HR.out];rfl,HTo.out⟩
 ·refine dz 106 61 1 _ (ax.cells ⟨aY v cnt s,t⟩) (.agg (ax.cells ⟨Rec.zero,⟨#[]⟩⟩).toArray) 9 96 Tryz.underlying106 jf (by omega) (by omega) rfl (by kernel_rfl) ?_
  intro g8 w8 l8 B8 e8 z8
  have hb8:Below wl.heap.size wl w8:=e8.mono l8
  have HG8:=Lib.hid B8
  have HX8:=Lib.hid (HXl.out.below hb8 HXl.out.lt)
  have HB8:=Lib.hid (HBl.out.below hb8 HBl.out.lt)
  have HT8:=Lib.hid (HTl.out.below hb8)
  clear B8 e8 z8 hb8 l8
  refine hK.out _ _ (HX8.out.range) (fun hHeld2=> ?_)
  clear hK K hHeld
  have hHeld:=hHeld2
  clear hHeld2
  (try go_frame)
  refine wpAnyH_ready (rs:=[4]) (by kernel_rfl) (by simp) ?_
  refine AllReadyH.cons rfl (fun K hK=> ?_) AllReadyH.nil
  have c4:w8.cell? ⟨i.vb,4,none⟩=some i.sv:=HT8.out.at'.vol.cell (i:=4) rfl
  go_simp
  clear c4
  refine hK.out _ _ (HX8.out.range) (fun hHeld2=> ?_)
  clear hK K hHeld
  have hHeld:=hHeld2
  clear hHeld2
  (try go_frame)
  refine wpAnyH_ready (rs:=[7]) (by kernel_rfl) (by simp) ?_
  refine AllReadyH.cons rfl (fun K hK=> ?_) AllReadyH.nil
  refine dh _ _ 106 rfl i0 (.agg (ax.cells ⟨Rec.zero,⟨#[]⟩⟩).toArray) 96 Tryz.underlying106 hi hz0 hz1 hz2 rfl (by decide) rfl HT8.out.at'.sealed ⟨g8,0,none⟩ 1 1 (ax.cells ⟨aY v cnt s,t⟩) rfl rfl (cj HG8.out) (nW _) (by have:=HC.out.sealed;show v.sealed.length+1≤maxLen;unfold maxLen;omega) (by have:=HC.out.sealed;show(v.sealed.length+1)*96≤140737488355328;omega) (Nat.zero_le _) ?_
  intro v' w9 own9 grow9' near9'
  have grow9:w8.grownBy w9 i.sv.ownBlock:=grow9'
  have near9:fC w8 i.sv.ownBlock v'.ownBlock:=near9'
  clear grow9' near9'
  have HX9:=Lib.hid (HX8.out.grown grow9 (fun e=>HN7.out (by simp only[aR.foot,List.mem_append,Option.mem_toList,Option.mem_def];exact .inr (.inr (.inr e.symm)))))
  have HB9:=Lib.hid (HB8.out.grown grow9 (fun e=>HN2.out (by simp only[aR.foot,List.mem_append,Option.mem_toList,Option.mem_def];exact .inr (.inr (.inr e.symm)))))
  have HV9:=Lib.hid (HT8.out.at'.vol.grown grow9 (fun e=>absurd (show 61=156 from(aV HT8.out.at'.sealed e.symm).eq HT8.out.at'.vol.ty) (by decide)))
  obtain⟨p9,q9,hsh⟩:=aQ own9
  subst hsh
  have HO9:=Lib.hid own9
  have HGR:=Lib.hid grow9
  have HNE:=Lib.hid near9
  clear own9 grow9 near9
  refine hK.out _ _ (HX9.out.range) (fun hHeld2=> ?_)
  clear hK K hHeld
  have hHeld:=hHeld2
  clear hHeld2
  (try go_frame)
  refine hp 8 ?_
  refine hp 9 ?_
  have c4:=HV9.out.cell (i:=4) rfl
  have f4:=HV9.out.free 4
  refine wpAnyH_ready (rs:=[10]) (by kernel_rfl) (by simp) ?_
  refine AllReadyH.cons rfl (fun K hK=> ?_) AllReadyH.nil
  go_simp
  have HX10:=Lib.hid (HX9.out.set_other (a:=⟨i.vb,4,none⟩) (fun e=>HN7.out (by rw[e];simp[aR.foot])) (.slice p9 (v.sealed.length+1) q9))
  have HB10:=Lib.hid (HB9.out.set_other (a:=⟨i.vb,4,none⟩) (fun e=>HN2.out (by rw[e];simp[aR.foot])) (.slice p9 (v.sealed.length+1) q9))
  refine hK.out _ _ (HX10.out.range) (fun hHeld2=> ?_)
  clear hK K hHeld
  have hHeld:=hHeld2
  clear hHeld2
  (try go_frame)
  refine wpAnyH_done (by kernel_rfl) ?_ _
  clear hHeld c4 f4
  have HT10:=Lib.hid (HT8.out.trans (HT8.out.at'.own (key:=nk) (sv:=(.slice p9 (v.sealed.length+1) q9)) (l:=v.sealed++[⟨aY v cnt s,t⟩]) ((ab.of_grown HGR.out (fun k hk=>by simp[hk])).setCell (.inl (by simp)) 4 (.slice p9 (v.sealed.length+1) q9)) (HV9.out.set 4 (.slice p9 (v.sealed.length+1) q9)) (by rw[List.length_append,pQ];exact aB HO9.out ((ab.refl [i.vb] w9).setCell (.inl (by simp)) 4 (.slice p9 (v.sealed.length+1) q9)) (fun k hk=>(aV HO9.out hk).notin (bZ.one HV9.out.ty) (by decide))) (fun k hk=>HNE.out.elim (fun e=> .inl (by rw[←e];exact hk)) (fun f=> .inr (f k hk)))))
  obtain⟨w10,hw10⟩:∃w10,w10=w9.setCell ⟨i.vb,4,none⟩ (.slice p9 (v.sealed.length+1) q9):=⟨_,rfl⟩
  rw[←hw10]at HT10 HB10
  rw[←hw10]
  clear hw10 HV9 HO9 HGR HNE HX9 HB9 HX10
  go_upto_region 17 with fail
  have hw17:IntKind.i64.wrap (v.sealed.length:Int)=(v.sealed.length:Int):=IntWalk.i64_in _ (by have:=HC.out.sealed;omega)
  have hw18:IntKind.i64.wrap ((v.sealed.length:Int)+1-1)=(v.sealed.length:Int):=by rw[IntWalk.i64_in _ (by have:=HC.out.sealed;omega)];omega
  refine wp_region_held_drew (S:=fun wx=>wx.cell? ⟨i.vb,4,none⟩=some (.slice p9 (v.sealed.length+1) q9)) (by kernel_rfl) (HT10.out.at'.vol.drew.cell (i:=4) rfl) (fun hHeld=> ?_)
  obtain⟨wm,hwm⟩:∃wm,wm=w10.drew:=⟨_,rfl⟩
  have hbm:Below w10.heap.size w10 wm:=by rw[hwm];exact(Below.refl _ _).drew
  have HTm:=Lib.hid (HT10.out.below hbm)
  have HBm:=Lib.hid (HB10.out.below hbm HB10.out.lt)
  rw[←hwm]
  rw[←hwm]at hHeld
  clear hwm hbm
  refine hp 0 ?_
  refine hp 1 ?_
  refine hp 2 ?_
  refine hp 3 ?_
  refine hp 4 ?_
  refine hp 5 ?_
  refine hp 6 ?_
  refine hp 7 ?_
  refine hp 8 ?_
  refine hp 9 ?_
  refine wpAnyH_ready (rs:=[10]) (by kernel_rfl) (by simp) ?_
  refine AllReadyH.cons rfl (fun K hK=> ?_) AllReadyH.nil
  go_simp
  refine(rS (.slice p9 (v.sealed.length+1) q9) (v.sealed++[⟨aY v cnt s,t⟩]) (v.sealed.length:Int) _ (cH.own (n:=v.sealed.length+1) (by have h9:=HTm.out.at'.sealed;simp only[List.length_append,List.length_cons,List.length_nil,Nat.zero_add]at h9;exact h9) (by simp)) (by rw[List.length_append];have:=HC.out.sealed;show v.sealed.length+1≤1048576;omega) HTAME.out).mono ?_
  rintro e wn ⟨he,hbn⟩
  unfold nT at he
  obtain⟨R,hR⟩:∃R,gA (v.sealed++[⟨aY v cnt s,t⟩]) (v.sealed.length:Int)=R:=⟨_,rfl⟩
  rw[hR]at he
  subst he
  have HR:=Lib.hid hR
  have HTn:=Lib.hid (HTm.out.below hbn)
  have HBn:=Lib.hid (HBm.out.below hbn HBm.out.lt)
  clear hbn hR
  (try go_wp2_with fail)
  refine hK.out _ _ (HTn.out.at'.vol.cell (i:=4) rfl) (fun hHeld2=> ?_)
  clear hK K hHeld
  have hHeld:=hHeld2
  clear hHeld2
  (try go_frame)
  refine hp 11 ?_
  refine hp 12 ?_
  refine wpAnyH_ready (rs:=[13]) (by kernel_rfl) (by simp) ?_
  refine AllReadyH.cons rfl (fun K hK=> ?_) AllReadyH.nil
  refine fG 71 (.tmp 2) (.tmp 123) b2 aH.zero.cells R.1.cells 71 HBn.out rfl bI (aH.cells_one _) rfl rfl rfl ?_
  intro wo Bo oo
  have HTo:=Lib.hid (HTn.out.away (oo.turned (by simp)) (HTn.out.at'.notype HBn.out.ty (by decide)) HL1.out)
  refine hK.out _ _ (HTo.out.at'.vol.cell (i:=4) rfl) (fun hHeld2=> ?_)
  clear hK K hHeld
  have hHeld:=hHeld2
  clear hHeld2
  (try go_frame)
  refine hp 14 ?_
  refine wpAnyH_done (by kernel_rfl) ?_ _
  clear hHeld
  (try go_wp2_with fail)
  (try simp only[Exit.inBlock,Exit.then]);refine bodyPost_ret (aL rfl _ _ Bo.range rfl Tryz.underlying71 rfl bI) rfl ⟨s,t,bl,nk,kb,q,nb,(.slice p9 (v.sealed.length+1) q9),HTS.out,HTT.out,HTB.out,HTN.out,HTK.out,HTQ.out,HNB.out,by rw[HR.out];rfl,HTo.out⟩
end Go.Proofs.YtngiibgdgenidaaGreat
