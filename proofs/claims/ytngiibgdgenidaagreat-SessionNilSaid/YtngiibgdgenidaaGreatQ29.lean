/- What a verifier does with a record (chapter 28). A proof of no leaf in a tree of none, checked (chapter 16). What a verifier does with what is told of a place (chapter 28). -/
import Derived.Test.YtngiibgdgenidaaGreatQ26
import Derived.Test.YtngiibgdgenidaaGreatQ28
import Derived.Test.YtngiibgdgenidaaGreatQ27
import Derived.Test.YtngiibgdgenidaaGreatQ13
import Derived.Test.YtngiibgdgenidaaGreatQ21
set_option linter.unusedSimpArgs false
set_option linter.unusedVariables false
set_option maxRecDepth 100000
set_option maxHeartbeats 4000000
namespace Go.Proofs.YtngiibgdgenidaaGreat
open Go Go.RowKit Go.Maps Go.WideMaps
theorem Cd (w:World):(zeroValue 59).run Tryz.prog w= .ok (.agg Rec.zero.cells.toArray) w:=by kernel_rfl
theorem nt (r:Rec):∀v∈r.cells,v.oneCell'=true:=by
 intro v hv;simp only[Rec.cells,List.mem_cons,List.mem_nil_iff,or_false]at hv;rcases hv with rfl|rfl|rfl|rfl|rfl|rfl|rfl|rfl<;>rfl
theorem nw (x:ax):∀v∈x.cells,v.oneCell'=true:=by
 intro v hv;exact rR [x] v (by simpa[dP]using hv)
theorem rr (vb:Nat) (d:ay) (k:kP) (w:World) (h:bq w vb d) (hln:d.l.length=1) (hs:d.head.seq=1) (hbk:d.bk=some k) (hbe:d.bep=1) (hhe:d.head.epoch=1) (hle:cT d.l=d.head.last):
  Calls Tryz.prog 237 #[.pointer (some ⟨vb,0,none⟩)] w fun e w'=>e= .returned (.tuple #[])∧bW w w' vb d {d with state:=4}:=by
 have HV0:=Lib.hid h
 obtain⟨pl,cl,hpl⟩:=aQ h.rows
 rw[hln]at hpl
 have HPL:=Lib.hid hpl
 have HLN:=Lib.hid hln
 have HHS:=Lib.hid hs
 have HBK:=Lib.hid (show d.bk=some k from hbk)
 have HBE:=Lib.hid hbe
 have HHE:=Lib.hid hhe
 have HLE:=Lib.hid hle
 clear h hln hs hbk hbe hhe hle hpl
 go_enter Tryz.func237,Tryz.ntmps237
 go_upto_region 0 with fail
 refine hb (fun w'=>w'.cell? ⟨vb,52,none⟩=some (.slice pl 1 cl)∧w'.cell? ⟨vb,13,none⟩=some (.int .i64 1)) (⟨(by rw[←HPL.out];exact HV0.out.blk.drew.cell (i:=52) rfl),(by rw[←HHS.out];exact HV0.out.blk.drew.cell (i:=13) rfl)⟩) fun hHeld=> ?_
 refine hp 0 ?_
 refine hp 1 ?_
 refine hp 2 ?_
 refine hp 3 ?_
 refine hp 4 ?_
 refine hp 5 ?_
 refine hp 6 ?_
 refine hp 7 ?_
 refine hp 8 ?_
 refine hp 9 ?_
 refine hp 10 ?_
 refine hp 11 ?_
 refine hp 12 ?_
 refine hd ?_
 clear hHeld
 obtain⟨w1,hw1⟩:∃y,y=w.drew:=⟨_,rfl⟩
 have HB1:=Lib.hid (show Below w.heap.size w w1 by rw[hw1];exact(Below.refl _ _).drew)
 have HV1:=Lib.hid (HV0.out.below HB1.out)
 rw[←hw1]
 clear hw1
 go_upto_region 1 with fail
 obtain⟨w2,hw2⟩:∃y,y=w1.drew:=⟨_,rfl⟩
 have hb2:Below w1.heap.size w1 w2:=by rw[hw2];exact(Below.refl _ _).drew
 have HB2:=Lib.hid (HB1.out.trans (hb2.mono HB1.out.size))
 have HV2:=Lib.hid (HV1.out.below hb2)
 refine hb (fun w'=>w'.cell? ⟨vb,53,none⟩=some (.pointer (some ⟨k.bb,0,none⟩))∧w'.cell? ⟨vb,12,none⟩=some (.int .i64 1)∧w'.cell? ⟨vb,52,none⟩=some (.slice pl 1 cl)∧w'.cell? ⟨vb,16,none⟩=some (.string d.head.last)) ((by rw[←hw2];exact⟨(by have h9:=HV2.out.blk.cell (i:=53) rfl;rw[HBK.out]at h9;exact h9),(by rw[←HHE.out];exact HV2.out.blk.cell (i:=12) rfl),(by rw[←HPL.out];exact HV2.out.blk.cell (i:=52) rfl),HV2.out.blk.cell (i:=16) rfl⟩)) fun hHeld=> ?_
 rw[←hw2]
 rw[←hw2]at hHeld
 clear hw2 hb2
 refine hp 0 ?_
 refine hp 1 ?_
 refine hp 2 ?_
 refine hp 3 ?_
 refine hp 4 ?_
 refine hp 6 ?_
 refine hp 7 ?_
 refine hp 8 ?_
 refine hp 9 ?_
 refine hp 10 ?_
 refine hp 11 ?_
 refine hc 5 fun K hK=> ?_
 go_simp
 refine(eK k.bb k.c2 0 1 k.n1 k.n2 k.n3 _ (by have h9:=(HV2.out.book k HBK.out).book;rw[HBE.out]at h9;exact h9)).mono ?_
 rintro e w' ⟨rfl,rfl⟩
 (try go_wp2_with fail)
 refine hK.out _ _ (⟨(by have h9:=HV2.out.blk.cell (i:=53) rfl;rw[HBK.out]at h9;exact h9),(by rw[←HHE.out];exact HV2.out.blk.cell (i:=12) rfl),(by rw[←HPL.out];exact HV2.out.blk.cell (i:=52) rfl),HV2.out.blk.cell (i:=16) rfl⟩) fun _=> ?_
 clear hK K hHeld
 rename_i hHeld
 (try go_frame)
 refine hp 12 ?_
 refine hp 13 ?_
 refine hp 14 ?_
 refine hp 15 ?_
 refine hp 16 ?_
 refine hp 17 ?_
 refine hp 18 ?_
 refine hp 20 ?_
 refine hp 21 ?_
 refine hp 22 ?_
 refine hp 23 ?_
 refine hp 24 ?_
 refine hp 25 ?_
 refine hc 19 fun K hK=> ?_
 go_simp
 refine(gz (.slice pl 1 cl) d.l _ (cH.own (n:=1) (by have h9:=HV2.out.rows;rw[HPL.out,HLN.out]at h9;exact h9) HLN.out.symm) (by rw[HLN.out];decide)).mono ?_
 rintro e w3 ⟨rfl,hb3⟩
 rw[HLE.out]
 have HB3:=Lib.hid (HB2.out.trans (hb3.mono HB2.out.size))
 have HV3:=Lib.hid (HV2.out.below hb3)
 clear hb3
 (try go_wp2_with fail)
 refine hK.out _ _ (⟨(by have h9:=HV3.out.blk.cell (i:=53) rfl;rw[HBK.out]at h9;exact h9),(by rw[←HHE.out];exact HV3.out.blk.cell (i:=12) rfl),(by rw[←HPL.out];exact HV3.out.blk.cell (i:=52) rfl),HV3.out.blk.cell (i:=16) rfl⟩) fun _=> ?_
 clear hK K hHeld
 rename_i hHeld
 (try go_frame)
 refine hp 26 ?_
 refine hp 27 ?_
 refine hp 28 ?_
 refine hd ?_
 clear hHeld
 have c4:=HV3.out.blk.cell (i:=4) rfl
 go_wp2_with (first
  |(at_range;refine wpList_range_own _ rfl _ 105 rfl 3 71 jD Tryz.underlying105 _ d.m2 0 (.map []) rfl HV3.out.map ?_;intro w4 hr4 hg4 hs4)
  |fail)
 have HR:=Lib.hid hr4
 have hb4:Below w3.heap.size w3 w4:=⟨hg4.os,hg4.tape,hg4.output,hg4.size,fun i hi=>hg4.block i hi (by simp)⟩
 have HB4:=Lib.hid (HB3.out.trans (hb4.mono HB3.out.size))
 have HV4:=Lib.hid (HV3.out.below hb4)
 clear hr4 hg4 hs4 c4 hb4
 go_frame
 go_loopw [2] (fun vf wr=>vf= .bool true∧wr=w4) (fun _ _=>0)
 case atStart=>exact⟨rfl,rfl⟩
 case round=>
  obtain⟨rfl,rfl⟩:=hrel
  have B4:=HV4.out.blk
  go_wp2_with (first
   |(at_next;refine wpList_next_ranges _ rfl _ rfl 3 jD _ (fun x:Value=>x) (fun x:Value=>x) (fun key kl h=>⟨key,rfl⟩) (fun v y h=>⟨v,rfl⟩) d.m2 w3.heap.size 0 (.map []) _ _ rfl HR.out (fun _ _=> ?_) (fun x c kl y w' cnt' h1 h2 h3 _ _ hlt _ _ _=>by cases h3))
   |((with_reducible refine aj 3 (.tmp 85) (.const (.int .i64 4)) vb 6 (.int .i64 4) _ _ B4 (Nat.le_of_ble_eq_true rfl) (by kernel_rfl) rfl ?hgd ?ho ?hx ?hy ?_);(case hgd|ho|hx|hy=>rfl);(intro w5 B5 o5))
   |fail)
  go_end0
  have V5:=Lib.hid (HV4.out.only o5 (d':={d with state:=4}) B5)
  exact⟨rfl,bW.ahead HB4.out V5.out⟩
theorem tA (vb:Nat) (d:ay) (m:aa) (x:ax) (k:kP) (p1 p2:Option Addr) (c1 c2:Nat) (w:World) (h:bq w vb d) (hr:d.root.size=32) (hbk:d.bk=some k) (hne:k.bb≠k.c2) (hl:d.l=[]) (hlv:d.lv= .slice none 0 0) (hm:m.sld=x) (hk1:x.r.kind=1) (hep:x.r.epoch=0) (hok:aE x.r=true) (hbe:d.bep=0) (hbn:d.bnow=0) (htime:0≤x.r.time)
  (htag:ak x.tag (lw (iV d.root.data.toList 0 0) (cT []).data.toList 0 x.r)) (hhe:d.head.epoch=1) (hhs:d.head.seq=1) (hhl:d.head.last=x.tag) (hrb:x.r.root.size≤1048576∧x.r.name.size≤1048576∧Fits x.r.epoch):
  Calls Tryz.prog 127 #[.pointer (some ⟨vb,0,none⟩),m.v (.slice p1 0 c1) (.slice p2 0 c2)] w fun e w'=>e= .returned (.int .i64 0)∧∃v',bW w w' vb d {d with state:=4,l:=[x],lv:=v',bep:=1,bnow:=x.r.time}:=by
 have HH:=Lib.hid h
 have HR0:=Lib.hid hr
 have HBK:=Lib.hid hbk
 have HNK:=Lib.hid hne
 have HL:=Lib.hid hl
 have HLV:=Lib.hid hlv
 have HMS:=Lib.hid hm
 have HK1:=Lib.hid hk1
 have HEP:=Lib.hid hep
 have HOK:=Lib.hid hok
 have HBE:=Lib.hid hbe
 have HBN:=Lib.hid hbn
 have HTI:=Lib.hid htime
 have HTG:=Lib.hid htag
 have HHE:=Lib.hid hhe
 have HHS:=Lib.hid hhs
 have HHL:=Lib.hid hhl
 have HRB:=Lib.hid hrb
 clear h hr hbk hne hl hlv hk1 hep hok hbe hbn htime htag hhe hhs hhl hrb
 go_enter Tryz.func127,Tryz.ntmps127
 go_upto_region 1 with(first
  |((with_reducible refine ai 73 (.tmp 1) (m.cells (.slice p1 0 c1) (.slice p2 0 c2)) (some 3) ?hgd ?ho ?hd ?hx ?_);(case hgd|ho|hd|hx=>rfl);(intro b0 w0 l0 B0 e0 z0))
  |fail)
 have HB0:=Lib.hid (show Below w.heap.size w w0 from e0.mono l0)
 have HX0:=Lib.hid B0
 have HV0:=Lib.hid (HH.out.below HB0.out)
 have HL0:=Lib.hid (show w.heap.size≤b0 from l0)
 clear B0 e0 l0 z0
 have HSX:=Lib.hid (show ∀wx:World,wx.rangeAt b0 0 (m.cells (.slice p1 0 c1) (.slice p2 0 c2))→wx.rangeAt b0 8 x.cells from by
  subst hm
  intro wx hx j u hu
  have h9:j<9:=(List.getElem?_eq_some_iff.1 hu).1
  have:=hx (8+j) u (by rw[←hu];obtain _|_|_|_|_|_|_|_|_|j:=j<;>first|rfl|omega)
  simpa using this)
 have q8:w0.cell? ⟨b0,8,none⟩=some (.int .i64 x.r.kind):=by rw[←HMS.out];exact HX0.out.cell (i:=8) rfl
 have q9:w0.cell? ⟨b0,9,none⟩=some (.int .i64 x.r.epoch):=by rw[←HMS.out];exact HX0.out.cell (i:=9) rfl
 have q10:w0.cell? ⟨b0,10,none⟩=some (.int .i64 x.r.time):=by rw[←HMS.out];exact HX0.out.cell (i:=10) rfl
 have q11:w0.cell? ⟨b0,11,none⟩=some (.int .i64 x.r.count):=by rw[←HMS.out];exact HX0.out.cell (i:=11) rfl
 have q12:w0.cell? ⟨b0,12,none⟩=some (.int .i64 x.r.target):=by rw[←HMS.out];exact HX0.out.cell (i:=12) rfl
 have q13:w0.cell? ⟨b0,13,none⟩=some (.int .i64 x.r.till):=by rw[←HMS.out];exact HX0.out.cell (i:=13) rfl
 have q14:w0.cell? ⟨b0,14,none⟩=some (.string x.r.root):=by rw[←HMS.out];exact HX0.out.cell (i:=14) rfl
 have q15:w0.cell? ⟨b0,15,none⟩=some (.string x.r.name):=by rw[←HMS.out];exact HX0.out.cell (i:=15) rfl
 have HSR:=Lib.hid (show ∀wx:World,wx.rangeAt b0 0 (m.cells (.slice p1 0 c1) (.slice p2 0 c2))→wx.rangeAt b0 8 x.r.cells from fun wx hx j u hu=>HSX.out wx hx j u (by have h8:j<8:=(List.getElem?_eq_some_iff.1 hu).1;rw[←hu];obtain _|_|_|_|_|_|_|_|j:=j<;>first|rfl|omega))
 go_upto_region 3 with(first
  |((with_reducible refine af 59 _ Cd (some 5) ?hgd ?ho ?hd ?_);(case hgd|ho|hd=>rfl);(intro b5 w1 l1 B1 e1 z1))
  |((with_reducible refine ae 59 (.tmp 5) (.tmp 9) b5 Rec.zero.cells x.r.cells 59 B1 rfl aS (nt _) ?hgd ?ho ?hx ?hy ?_);(case hgd|ho|hx|hy=>rfl);(intro w2 B2 o2))
  |fail)
 have hb2:Below w0.heap.size w0 w2:=o2.below (e1.mono l1) l1
 have HX2:=Lib.hid (HX0.out.below hb2 HX0.out.lt)
 have HR2:=Lib.hid B2
 have HV2:=Lib.hid (HV0.out.below hb2)
 have HB2:=Lib.hid (HB0.out.trans (hb2.mono HB0.out.size))
 clear B1 e1 l1 z1 B2 o2 hb2 q8 q9 q10 q11 q12 q13 q14 q15
 obtain⟨w3,hw3⟩:∃y,y=w2.drew:=⟨_,rfl⟩
 have hb3:Below w2.heap.size w2 w3:=by rw[hw3];exact(Below.refl _ _).drew
 have HX3:=Lib.hid (HX2.out.below hb3 HX2.out.lt)
 have HR3:=Lib.hid (HR2.out.below hb3 HR2.out.lt)
 have HV3:=Lib.hid (HV2.out.below hb3)
 have HB3:=Lib.hid (HB2.out.trans (hb3.mono HB2.out.size))
 refine hb (fun w'=>w'.cell? ⟨b5,1,none⟩=some (.int .i64 0)∧w'.cell? ⟨vb,1,none⟩=some (.int .i64 0)∧w'.cell? ⟨vb,12,none⟩=some (.int .i64 1)) ((by rw[←hw3];exact⟨(by rw[←HEP.out];exact HR3.out.cell (i:=1) rfl),HV3.out.blk.cell (i:=1) rfl,(by rw[←HHE.out];exact HV3.out.blk.cell (i:=12) rfl)⟩)) fun hHeld=> ?_
 rw[←hw3]
 rw[←hw3]at hHeld
 clear hw3 hb3
 refine hp 0 ?_
 refine hp 1 ?_
 refine hp 2 ?_
 refine hp 3 ?_
 refine hp 4 ?_
 refine hp 5 ?_
 refine hp 6 ?_
 refine hp 7 ?_
 refine hp 8 ?_
 refine hp 9 ?_
 refine hp 10 ?_
 refine hp 11 ?_
 refine hp 12 ?_
 refine hp 13 ?_
 refine hp 14 ?_
 refine hp 15 ?_
 refine hp 16 ?_
 refine hp 17 ?_
 refine hd ?_
 clear hHeld
 go_upto_region 4 with fail
 obtain⟨w4,hw4⟩:∃y,y=w3.drew:=⟨_,rfl⟩
 have hb4:Below w3.heap.size w3 w4:=by rw[hw4];exact(Below.refl _ _).drew
 have HX4:=Lib.hid (HX3.out.below hb4 HX3.out.lt)
 have HR4:=Lib.hid (HR3.out.below hb4 HR3.out.lt)
 have HV4:=Lib.hid (HV3.out.below hb4)
 have HB4:=Lib.hid (HB3.out.trans (hb4.mono HB3.out.size))
 refine hb (fun w'=>w'.cell? ⟨b5,1,none⟩=some (.int .i64 0)∧w'.cell? ⟨vb,52,none⟩=some (.slice none 0 0)∧w'.rangeAt b5 0 x.r.cells) ((by rw[←hw4];exact⟨(by rw[←HEP.out];exact HR4.out.cell (i:=1) rfl),(by rw[←HLV.out];exact HV4.out.blk.cell (i:=52) rfl),HR4.out.range⟩)) fun hHeld=> ?_
 rw[←hw4]
 rw[←hw4]at hHeld
 clear hw4 hb4
 refine hp 0 ?_
 refine hp 1 ?_
 refine hp 2 ?_
 refine hp 4 ?_
 refine hp 5 ?_
 refine hp 6 ?_
 refine hp 7 ?_
 refine hp 8 ?_
 refine hp 10 ?_
 refine hp 11 ?_
 refine hp 12 ?_
 refine hp 13 ?_
 refine hp 14 ?_
 refine hp 15 ?_
 refine hl 16 59 b5 0 (x.r.cells) (fun w h=>h.2.2) Tryz.underlying59 aS ?_
 refine hc 3 fun K hK=> ?_
 go_simp
 refine(qs vb d 0 0 _ HV4.out HR0.out (by decide) (by decide)).mono ?_
 rintro e w5 ⟨⟨q,rfl,hq⟩,hb5⟩
 have HQ:=Lib.hid hq
 have HX5:=Lib.hid (HX4.out.below hb5 HX4.out.lt)
 have HR5:=Lib.hid (HR4.out.below hb5 HR4.out.lt)
 have HV5:=Lib.hid (HV4.out.below hb5)
 have HB5:=Lib.hid (HB4.out.trans (hb5.mono HB4.out.size))
 clear hb5 hq
 (try go_wp2_with fail)
 refine hK.out _ _ (⟨(by rw[←HEP.out];exact HR5.out.cell (i:=1) rfl),(by rw[←HLV.out];exact HV5.out.blk.cell (i:=52) rfl),HR5.out.range⟩) fun _=> ?_
 clear hK K hHeld
 rename_i hHeld
 (try go_frame)
 refine hc 9 fun K hK=> ?_
 go_simp
 refine(gz (.slice none 0 0) [] _ (cH.own (World.ownsRow_nil _ 0 61 9) rfl) (by decide)).mono ?_
 rintro e w6 ⟨rfl,hb6⟩
 have HX6:=Lib.hid (HX5.out.below hb6 HX5.out.lt)
 have HR6:=Lib.hid (HR5.out.below hb6 HR5.out.lt)
 have HV6:=Lib.hid (HV5.out.below hb6)
 have HB6:=Lib.hid (HB5.out.trans (hb6.mono HB5.out.size))
 clear hb6
 (try go_wp2_with fail)
 refine hK.out _ _ (⟨(by rw[←HEP.out];exact HR6.out.cell (i:=1) rfl),(by rw[←HLV.out];exact HV6.out.blk.cell (i:=52) rfl),HR6.out.range⟩) fun _=> ?_
 clear hK K hHeld
 rename_i hHeld
 (try go_frame)
 refine hc 17 fun K hK=> ?_
 go_simp
 refine(rP q (cT []) 0 x.r _ HRB.out.1 HRB.out.2.1 HRB.out.2.2 (by unfold Fits;decide)).mono ?_
 rintro e w7 ⟨he,hb7⟩
 obtain⟨tg,rfl,ttg⟩:=he.yes ⟨by rw[HQ.out.size,fU],by decide,by decide,by decide,HOK.out⟩
 have heq:tg=x.tag:=by have h1:=ttg;have h2:=HTG.out;unfold ak at h1 h2;rw[HQ.out]at h1;exact ByteArray.ext (Array.ext' (by rw[h1,h2]))
 subst heq
 have H32:=Lib.hid (show x.tag.size=32 by rw[ttg.size];exact fg _ _ _ _)
 have HX7:=Lib.hid (HX6.out.below hb7 HX6.out.lt)
 have HR7:=Lib.hid (HR6.out.below hb7 HR6.out.lt)
 have HV7:=Lib.hid (HV6.out.below hb7)
 have HB7:=Lib.hid (HB6.out.trans (hb7.mono HB6.out.size))
 clear hb7 he ttg
 (try go_wp2_with fail)
 refine hK.out _ _ (⟨(by rw[←HEP.out];exact HR7.out.cell (i:=1) rfl),(by rw[←HLV.out];exact HV7.out.blk.cell (i:=52) rfl),HR7.out.range⟩) fun _=> ?_
 clear hK K hHeld
 rename_i hHeld
 (try go_frame)
 refine hp 18 ?_
 refine hp 19 ?_
 refine hp 20 ?_
 refine hp 21 ?_
 refine hd ?_
 clear hHeld
 go_upto_region 5 with fail
 have HMw7:=Lib.hid HV7.out.blk
 have HOw7:=Lib.hid (show w7.ownsRow 0 61 9 (.slice none 0 0) 0 []from World.ownsRow_nil _ 0 61 9)
 have HXw7:=Lib.hid HX7.out
 have HCK:=Lib.hid (show d.cells[52]?=some (.slice none 0 0)from by show some d.lv= _;rw[HLV.out])
 go_cut []from 49 to 61 (fun wx=>vq w7 wx vb 52 d.cells 113 61 9 (.slice none 0 0) (0+1) ([]++x.cells))
 case first=>
  refine hb (fun wx=>wx.rangeAt b0 8 x.cells) ((HSX.out _ HXw7.out.drew.range)) fun hHeld=> ?_
  obtain⟨wd,hwd⟩:∃wd,wd=w7.drew:=⟨_,rfl⟩
  have hbd:Below w7.heap.size w7 wd:=by rw[hwd];exact(Below.refl _ _).drew
  have HTw7:=Lib.hid (ab.refl (vb::((Value.slice none 0 0)).ownBlock.toList) w7)
  have HXwd:=Lib.hid (HXw7.out.below hbd HXw7.out.lt)
  have HMwd:=Lib.hid (HMw7.out.below hbd HMw7.out.lt)
  have HOwd:=Lib.hid (own_below hbd HOw7.out)
  have HTwd:=Lib.hid (HTw7.out.trans (ab.of_below hbd (Nat.le_refl _)))
  rw[←hwd]
  rw[←hwd]at hHeld
  clear hwd hbd
  obtain⟨i0,hi,hz0,hz1,hz2⟩:=info_parts jf
  refine hp 0 ?_
  refine hp 1 ?_
  refine hp 2 ?_
  refine hp 3 ?_
  refine hp 4 ?_
  refine hp 6 ?_
  refine hl 7 61 b0 8 (x.cells) (fun w h=>h) Tryz.underlying61 kY ?_
  refine hc2 5 8 (fun K hK=> ?_) (fun K hK=> ?_)
  ·have c4:wd.cell? ⟨vb,52,none⟩=some ((Value.slice none 0 0)):=HMwd.out.cell (i:=52) HCK.out
   go_simp
   clear c4
   (try go_wp2_with fail)
   refine hK.out _ _ ((HSX.out _ HXwd.out.range)) fun _=> ?_
   clear hK K hHeld
   rename_i hHeld
   (try go_frame)
   refine hc 8 fun K hK=> ?_
   refine dz 106 61 1 _ x.cells (.agg (ax.cells ⟨Rec.zero,⟨#[]⟩⟩).toArray) 9 96 Tryz.underlying106 jf (by omega) (by omega) rfl (by kernel_rfl) ?_
   intro g8 w8 l8 B8 e8 z8
   have hb8:Below wd.heap.size wd w8:=e8.mono l8
   have HG8:=Lib.hid B8
   have HXw8:=Lib.hid (HXwd.out.below hb8 HXwd.out.lt)
   have HMw8:=Lib.hid (HMwd.out.below hb8 HMwd.out.lt)
   have HOw8:=Lib.hid (own_below hb8 HOwd.out)
   have HTw8:=Lib.hid (HTwd.out.trans (ab.of_below hb8 (Nat.le_refl _)))
   clear B8 e8 z8 hb8 l8
   (try go_wp2_with fail)
   refine hK.out _ _ ((HSX.out _ HXw8.out.range)) fun _=> ?_
   clear hK K hHeld
   rename_i hHeld
   (try go_frame)
   refine hc 9 fun K hK=> ?_
   refine dh _ _ 106 rfl i0 (.agg (ax.cells ⟨Rec.zero,⟨#[]⟩⟩).toArray) 96 Tryz.underlying106 hi hz0 hz1 hz2 rfl (by decide) rfl HOw8.out ⟨g8,0,none⟩ 1 1 x.cells rfl rfl (cj HG8.out) (by intro v hv;exact nw x v hv) (by decide) (by decide) (Nat.zero_le _) ?_
   intro v' w9 own9 grow9' near9'
   have grow9:w8.grownBy w9 ((Value.slice none 0 0)).ownBlock:=grow9'
   have near9:fC w8 ((Value.slice none 0 0)).ownBlock v'.ownBlock:=near9'
   clear grow9' near9'
   obtain⟨p9,q9,hsh⟩:=aQ own9
   subst hsh
   have HXw9:=Lib.hid (HXw8.out.grown grow9 (fun e=>absurd (show 61=73 from(aV HOw8.out e.symm).eq HXw8.out.ty) (by decide)))
   have HMw9:=Lib.hid (HMw8.out.grown grow9 (fun e=>absurd (show 61=113 from(aV HOw8.out e.symm).eq HMw8.out.ty) (by decide)))
   have HO9:=Lib.hid own9
   have HNE:=Lib.hid (near9.back HTw8.out.size)
   have HTw9:=Lib.hid (HTw8.out.trans (ab.of_grown grow9 (fun k hk=>by simp[hk])))
   clear own9 grow9 near9
   (try go_wp2_with fail)
   refine hK.out _ _ ((HSX.out _ HXw9.out.range)) fun _=> ?_
   clear hK K hHeld
   rename_i hHeld
   (try go_frame)
   refine hp 10 ?_
   refine hp 11 ?_
   refine hp 12 ?_
   have c4:=HMw9.out.cell (i:=52) HCK.out
   have f4:=HMw9.out.free 52
   refine hc 13 fun K hK=> ?_
   go_simp
   have HXwx:=Lib.hid (HXw9.out.set_other (a:=⟨vb,52,none⟩) (fun e=>absurd ((e ▸ HXw9.out.ty).eq HMw9.out.ty) (by decide)) (.slice p9 (0+1) q9))
   have HMwx:=Lib.hid (HMw9.out.set 52 (.slice p9 (0+1) q9))
   have HTwx:=Lib.hid (HTw9.out.setCell (b:=vb) (.inl (by simp)) 52 (.slice p9 (0+1) q9))
   have HOx:=Lib.hid (aB HO9.out ((ab.refl [vb] w9).setCell (b:=vb) (.inl (by simp)) 52 (.slice p9 (0+1) q9)) (fun k hk=>(aV HO9.out hk).notin (bZ.one HMw9.out.ty) (by decide)))
   clear c4 f4
   (try go_wp2_with fail)
   refine hK.out _ _ ((HSX.out _ HXwx.out.range)) fun _=> ?_
   clear hK K hHeld
   rename_i hHeld
   (try go_frame)
   refine hd ?_
   clear hHeld
   (try go_wp2_with fail)
   go_meet
   exact⟨_,by exact HOx.out,HMwx.out,HTwx.out,HNE.out⟩
  ·refine dz 106 61 1 _ x.cells (.agg (ax.cells ⟨Rec.zero,⟨#[]⟩⟩).toArray) 9 96 Tryz.underlying106 jf (by omega) (by omega) rfl (by kernel_rfl) ?_
   intro g8 w8 l8 B8 e8 z8
   have hb8:Below wd.heap.size wd w8:=e8.mono l8
   have HG8:=Lib.hid B8
   have HXw8:=Lib.hid (HXwd.out.below hb8 HXwd.out.lt)
   have HMw8:=Lib.hid (HMwd.out.below hb8 HMwd.out.lt)
   have HOw8:=Lib.hid (own_below hb8 HOwd.out)
   have HTw8:=Lib.hid (HTwd.out.trans (ab.of_below hb8 (Nat.le_refl _)))
   clear B8 e8 z8 hb8 l8
   (try go_wp2_with fail)
   refine hK.out _ _ ((HSX.out _ HXw8.out.range)) fun _=> ?_
   clear hK K hHeld
   rename_i hHeld
   (try go_frame)
   refine hc 5 fun K hK=> ?_
   have c4:w8.cell? ⟨vb,52,none⟩=some ((Value.slice none 0 0)):=HMw8.out.cell (i:=52) HCK.out
   go_simp
   clear c4
   (try go_wp2_with fail)
   refine hK.out _ _ ((HSX.out _ HXw8.out.range)) fun _=> ?_
   clear hK K hHeld
   rename_i hHeld
   (try go_frame)
   refine hc 9 fun K hK=> ?_
   refine dh _ _ 106 rfl i0 (.agg (ax.cells ⟨Rec.zero,⟨#[]⟩⟩).toArray) 96 Tryz.underlying106 hi hz0 hz1 hz2 rfl (by decide) rfl HOw8.out ⟨g8,0,none⟩ 1 1 x.cells rfl rfl (cj HG8.out) (by intro v hv;exact nw x v hv) (by decide) (by decide) (Nat.zero_le _) ?_
   intro v' w9 own9 grow9' near9'
   have grow9:w8.grownBy w9 ((Value.slice none 0 0)).ownBlock:=grow9'
   have near9:fC w8 ((Value.slice none 0 0)).ownBlock v'.ownBlock:=near9'
   clear grow9' near9'
   obtain⟨p9,q9,hsh⟩:=aQ own9
   subst hsh
   have HXw9:=Lib.hid (HXw8.out.grown grow9 (fun e=>absurd (show 61=73 from(aV HOw8.out e.symm).eq HXw8.out.ty) (by decide)))
   have HMw9:=Lib.hid (HMw8.out.grown grow9 (fun e=>absurd (show 61=113 from(aV HOw8.out e.symm).eq HMw8.out.ty) (by decide)))
   have HO9:=Lib.hid own9
   have HNE:=Lib.hid (near9.back HTw8.out.size)
   have HTw9:=Lib.hid (HTw8.out.trans (ab.of_grown grow9 (fun k hk=>by simp[hk])))
   clear own9 grow9 near9
   (try go_wp2_with fail)
   refine hK.out _ _ ((HSX.out _ HXw9.out.range)) fun _=> ?_
   clear hK K hHeld
   rename_i hHeld
   (try go_frame)
   refine hp 10 ?_
   refine hp 11 ?_
   refine hp 12 ?_
   have c4:=HMw9.out.cell (i:=52) HCK.out
   have f4:=HMw9.out.free 52
   refine hc 13 fun K hK=> ?_
   go_simp
   have HXwx:=Lib.hid (HXw9.out.set_other (a:=⟨vb,52,none⟩) (fun e=>absurd ((e ▸ HXw9.out.ty).eq HMw9.out.ty) (by decide)) (.slice p9 (0+1) q9))
   have HMwx:=Lib.hid (HMw9.out.set 52 (.slice p9 (0+1) q9))
   have HTwx:=Lib.hid (HTw9.out.setCell (b:=vb) (.inl (by simp)) 52 (.slice p9 (0+1) q9))
   have HOx:=Lib.hid (aB HO9.out ((ab.refl [vb] w9).setCell (b:=vb) (.inl (by simp)) 52 (.slice p9 (0+1) q9)) (fun k hk=>(aV HO9.out hk).notin (bZ.one HMw9.out.ty) (by decide)))
   clear c4 f4
   (try go_wp2_with fail)
   refine hK.out _ _ ((HSX.out _ HXwx.out.range)) fun _=> ?_
   clear hK K hHeld
   rename_i hHeld
   (try go_frame)
   refine hd ?_
   clear hHeld
   (try go_wp2_with fail)
   go_meet
   exact⟨_,by exact HOx.out,HMwx.out,HTwx.out,HNE.out⟩
 case rest=>
 obtain⟨lv',hown,hblk,hturn0,hnear⟩:=hcut.ex
 have hturn:ab [vb] w7 wc:=by simpa[Value.ownBlock]using hturn0
 have hS:=bZ.one HV7.out.blk.ty
 have HXc:=Lib.hid (hturn.blk HX7.out (HX7.out.ty.notin hS (by decide)))
 have HRc:=Lib.hid (hturn.blk HR7.out (HR7.out.ty.notin hS (by decide)))
 have HAc:=Lib.hid (show bq wc vb {d with l:=[x],lv:=lv'} from
  ⟨hblk,dU HV7.out.map hturn (gB HV7.out.map hS),aB HV7.out.asks hturn (fun k hk=>(aV HV7.out.asks hk).notin hS (by decide)),(by have h9:=hown;simpa[dP]using h9),fun k hk=>(HV7.out.book k hk).turned hturn hS (by decide) (by decide)⟩)
 have HFc:=Lib.hid (show ∀y,y∈ay.foot {d with l:=[x],lv:=lv'} vb→y∈d.foot vb∨w7.heap.size≤y from by
  intro y hy
  simp only[ay.foot,List.mem_cons,List.mem_append]at hy ⊢
  rcases hy with hy|hy|hy
  ·exact .inl (.inl hy)
  ·exact .inl (.inr (.inl hy))
  ·rcases hnear with hn|hn
   ·rw[hn]at hy;cases hy
   ·exact .inr (hn y (by simpa using hy)))
 have Vc:=Lib.hid (show bW w wc vb d {d with l:=[x],lv:=lv'} from⟨HAc.out,(ab.of_below HB7.out (Nat.le_refl _)).trans (hturn.mono (fun y hy=>by simp at hy;subst hy;simp[ay.foot])),fun y hy=>(HFc.out y hy).elim .inl (fun h9=> .inr (Nat.le_trans HB7.out.size h9))⟩)
 clear hcut hown hblk hturn hturn0 hnear hS HMw7 HOw7 HXw7
 have x16:wc.cell? ⟨b0,16,none⟩=some (.string x.tag):=by rw[←HMS.out];exact HXc.out.cell (i:=16) rfl
 go_wp2_with fail
 refine(kg x.tag x.tag _ (by have:=H32.out;omega) rfl).mono ?_
 rintro e wd ⟨rfl,hbd⟩
 rw[decide_eq_true rfl]
 have HRd:=Lib.hid (HRc.out.below hbd HRc.out.lt)
 have HAd:=Lib.hid (HAc.out.below hbd)
 have Vd:=Lib.hid (Vc.out.below hbd)
 clear hbd x16
 go_upto_region 9 with fail
 obtain⟨we,hwe⟩:∃y,y=wd.drew:=⟨_,rfl⟩
 have hbe:Below wd.heap.size wd we:=by rw[hwe];exact(Below.refl _ _).drew
 have HRe:=Lib.hid (HRd.out.below hbe HRd.out.lt)
 have HAe:=Lib.hid (HAd.out.below hbe)
 have Ve:=Lib.hid (Vd.out.below hbe)
 refine hb (fun w'=>w'.cell? ⟨vb,53,none⟩=some (.pointer (some ⟨k.bb,0,none⟩))∧w'.rangeAt b5 0 x.r.cells) ((by rw[←hwe];exact⟨(by have h9:=HAe.out.blk.cell (i:=53) rfl;rw[show yD d.bk= .pointer (some ⟨k.bb,0,none⟩) by rw[HBK.out];rfl]at h9;exact h9),HRe.out.range⟩)) fun hHeld=> ?_
 rw[←hwe]
 rw[←hwe]at hHeld
 clear hwe hbe
 refine hp 0 ?_
 refine hp 1 ?_
 refine hp 2 ?_
 refine hp 3 ?_
 refine hp 4 ?_
 refine hl 5 59 b5 0 (x.r.cells) (fun w h=>h.2) Tryz.underlying59 aS ?_
 refine hc 6 fun K hK=> ?_
 go_simp
 have hk9:=HAe.out.book k HBK.out
 have hk8:m9 we k 0 0:=by have h9:=hk9;simp only[HBE.out,HBN.out]at h9;exact h9
 refine(oK k.bb k.c2 k.n1 k.n2 k.n3 0 0 0 0 (.map []) (.map []) (.map []) x.r _ hk8.book hk8.clock hk8.maps HK1.out HOK.out HEP.out HTI.out HNK.out).mono ?_
 rintro e wf ⟨⟨rfl,hBf,hCf⟩,htf⟩
 have hS9:=bZ.cons hk8.book.ty (bZ.one hk8.clock.ty)
 have HRf:=Lib.hid (htf.blk HRe.out (HRe.out.ty.notin hS9 (by decide)))
 have HAf:=Lib.hid (show bq wf vb {d with l:=[x],lv:=lv',bep:=1,bnow:=x.r.time} from
  ⟨htf.blk HAe.out.blk (HAe.out.blk.ty.notin hS9 (by decide)),dU HAe.out.map htf (gB HAe.out.map hS9),aB HAe.out.asks htf (fun j hj=>(aV HAe.out.asks hj).notin hS9 (by decide)),aB HAe.out.rows htf (fun j hj=>(aV HAe.out.rows hj).notin hS9 (by decide)),fun j hj=>by
   have e9:k=j:=by have h9:=HBK.out;rw[hj]at h9;injection h9 with h9;exact h9.symm
   subst e9
   exact⟨by simpa using hBf,hCf,hk8.maps.turned htf (eX hk8.maps hS9)⟩⟩)
 have Vf:=Lib.hid (show bW w wf vb d {d with l:=[x],lv:=lv',bep:=1,bnow:=x.r.time} from
  ⟨HAf.out,Ve.out.turned.on htf (fun y hy=> .inl (by
   have hbk9:=HBK.out
   simp only[ay.foot,hbk9,lO,kP.foot,List.mem_cons,List.mem_append,List.mem_nil_iff,or_false]at hy ⊢
   rcases hy with hy|hy
   ·exact .inr (.inl (.inl hy))
   ·exact .inr (.inl (.inr (.inl hy))))),Ve.out.foot⟩)
 clear hk9 hk8 hBf hCf htf hS9
 (try go_wp2_with fail)
 refine hK.out _ _ (⟨(by have h9:=HAf.out.blk.cell (i:=53) rfl;rw[show yD d.bk= .pointer (some ⟨k.bb,0,none⟩) by rw[HBK.out];rfl]at h9;exact h9),HRf.out.range⟩) fun _=> ?_
 clear hK K hHeld
 rename_i hHeld
 (try go_frame)
 refine hp 7 ?_
 refine hp 8 ?_
 refine hd ?_
 clear hHeld
 go_wp2_with fail
 refine(rr vb _ k _ HAf.out rfl HHS.out HBK.out rfl HHE.out (show cT [x]=d.head.last by rw[HHL.out];rfl)).mono ?_
 rintro e wg ⟨rfl,vg⟩
 have Vg:=Lib.hid (Vf.out.trans vg)
 clear vg
 go_wp2_with fail
 go_ret
 exact⟨rfl,lv',Vg.out⟩
def jJ (u l:Value):List Value:=[.bool false, .int .i64 0, .int .i64 0, .string ⟨#[]⟩, .int .i64 0, .string ⟨#[]⟩,u,l]
theorem xH (w:World):(zeroValue 411).run Tryz.prog w= .ok (.agg ([.string ⟨#[]⟩, .int .i64 0]:List Value).toArray) w:=by kernel_rfl
theorem xI {a b:Value}:(Tryz.prog.info? 411).map (·.size)=some ([a,b]:List Value).length:=by kernel_rfl
theorem zX (r:ByteArray):∀x∈([.string r, .int .i64 0]:List Value),x.oneCell'=true:=by
 intro x hx;simp only[List.mem_cons,List.mem_nil_iff,or_false]at hx;rcases hx with rfl|rfl<;>rfl
theorem qw {u l:Value}:(Tryz.prog.info? 67).map (·.size)=some (jJ u l).length:=by kernel_rfl
theorem xJ (p:Option Addr) (c:Nat) (w:World):
  Calls Tryz.prog 384 #[.agg #[.int .i64 0, .string ⟨#[]⟩], .slice p 0 c] w fun e w'=>e= .returned (.bool true)∧Below w.heap.size w w':=by
 have heq:∀w,(binOp .eql 63 (.agg #[.int .i64 0, .string ⟨#[]⟩]) (.agg #[.int .i64 0, .string ⟨#[]⟩])).run Tryz.prog w= .ok (.bool true) w:=fun w=>by kernel_rfl
 go_enter Tryz.func384,Tryz.ntmps384
 go_wp2_with (first
  |((with_reducible refine ai 63 (.tmp 0) [.int .i64 0, .string ⟨#[]⟩] (some 2) ?hgd ?ho ?hd ?hx ?_);(case hgd|ho|hd|hx=>rfl);(intro b1 w1 l1 B1 e1 z1;have q0:=B1.cell (i:=0) rfl;have q1:=B1.cell (i:=1) rfl))
  |fail)
 go_ret
 exact⟨rfl,e1.mono l1⟩
theorem oU (n:Int) (p:Option Addr) (c:Nat) (x:Bool) (b7:Value) (w:World):
  Calls Tryz.prog 386 #[.bool false, .int .i64 n, .agg #[.int .i64 0, .string ⟨#[]⟩], .slice p 0 c, .bool x,b7] w fun e w'=>e= .returned (.bool true)∧Below w.heap.size w w':=by
 go_enter Tryz.func386,Tryz.ntmps386
 go_wp2_with (first
  |((with_reducible refine ai 63 (.tmp 2) [.int .i64 0, .string ⟨#[]⟩] (some 8) ?hgd ?ho ?hd ?hx ?_);(case hgd|ho|hd|hx=>rfl);(intro b1 w1 l1 B1 e1 z1;have q0:=B1.cell (i:=0) rfl;have q1:=B1.cell (i:=1) rfl))
  |fail)
 have HB:=Lib.hid (e1.mono l1)
 clear B1 e1 l1 z1
 refine(xJ p c _).mono ?_
 rintro e w2 ⟨rfl,hb2⟩
 have HB2:=Lib.hid (HB.out.trans (hb2.mono HB.out.size))
 clear hb2
 go_wp2_with fail
 go_ret
 exact⟨rfl,HB2.out⟩
theorem zY (root:ByteArray) (p1 p2:Option Addr) (c1 c2:Nat) (w:World) (hr:ak root (de [])):
  Calls Tryz.prog 358 #[.agg #[.string root, .int .i64 0], .int .i64 0, .agg (jJ (.slice p1 0 c1) (.slice p2 0 c2)).toArray] w fun e w'=>e= .returned (.bool true)∧Below w.heap.size w w':=by
 have HRT:=Lib.hid hr
 have hmk:∀(fn:Fn) (first cap:Array Value) (w:World),(Instr.makeFunc fn first cap).run Tryz.prog w= .ok (.func fn first cap) w:=fun _ _ _ _=>rfl
 clear hr
 go_enter Tryz.func358,Tryz.ntmps358
 go_upto_region 3 with(first
  |((with_reducible refine ai 411 (.tmp 0) [.string root, .int .i64 0] (some 3) ?hgd ?ho ?hd ?hx ?_);(case hgd|ho|hd|hx=>rfl);(intro b3 w1 l1 B1 e1 z1))
  |((with_reducible refine ai 67 (.tmp 2) (jJ (.slice p1 0 c1) (.slice p2 0 c2)) (some 5) ?hgd ?ho ?hd ?hx ?_);(case hgd|ho|hd|hx=>rfl);(intro b5 w2 l2 B2 e2 z2;have B12:=B1.below e2 (Nat.lt_of_lt_of_le z1 l2);have q0:=B12.cell (i:=0) rfl;have q1:=B12.cell (i:=1) rfl))
  |((with_reducible refine aj 435 (.tmp 7) (.tmp 10) w2.heap.size 0 (.func (.func 385) #[.agg #[.string root, .int .i64 0]] #[]) _ _ (ac.new w2 [.nilFunc] 435) (Nat.le_of_ble_eq_true rfl) (by kernel_rfl) rfl ?hgd ?ho ?hx ?hy ?_);(case hgd|ho|hx|hy=>rfl);(intro wa B3 o3))
  |fail)
 have hl2:w.heap.size≤w2.heap.size:=by omega
 have hb2:Below w.heap.size w w2:=(e1.mono l1).trans (e2.mono (by omega))
 have hba:Below w2.heap.size w2 wa:=o3.below ((Below.refl _ _).alloc (Nat.le_refl _) _) (Nat.le_refl _)
 have HCa:=Lib.hid (B12.below hba B12.lt)
 have HPa:=Lib.hid (B2.below hba B2.lt)
 have HBa:=Lib.hid (hb2.trans (hba.mono hl2))
 clear B1 B2 B12 e1 e2 l1 l2 z1 z2 q0 q1 B3 o3 hl2 hb2 hba
 obtain⟨wd,hwd⟩:∃y,y=wa.drew:=⟨_,rfl⟩
 have hbd:Below wa.heap.size wa wd:=by rw[hwd];exact(Below.refl _ _).drew
 have HC5:=Lib.hid (HCa.out.below hbd HCa.out.lt)
 have HP5:=Lib.hid (HPa.out.below hbd HPa.out.lt)
 have HB5:=Lib.hid (HBa.out.trans (hbd.mono HBa.out.size))
 refine hb (fun w'=>w'.cell? ⟨b3,0,none⟩=some (.string root)∧w'.cell? ⟨b3,1,none⟩=some (.int .i64 0)) ((by rw[←hwd];exact⟨HC5.out.cell (i:=0) rfl,HC5.out.cell (i:=1) rfl⟩)) fun hHeld=> ?_
 rw[←hwd]
 rw[←hwd]at hHeld
 clear hwd hbd
 refine hp 0 ?_
 refine hp 1 ?_
 refine hp 2 ?_
 refine hp 3 ?_
 refine hp 4 ?_
 refine hp 5 ?_
 refine hc 6 fun K hK=> ?_
 go_simp
 refine(uj none 0 _).mono ?_
 rintro e w6 ⟨r,rfl,tr,hb6⟩
 have heq:r=root:=by have h1:=tr;have h2:=HRT.out;unfold ak at h1 h2;exact ByteArray.ext (Array.ext' (by rw[h1,h2]))
 subst heq
 have HC6:=Lib.hid (HC5.out.below hb6 HC5.out.lt)
 have HP6:=Lib.hid (HP5.out.below hb6 HP5.out.lt)
 have HB6:=Lib.hid (HB5.out.trans (hb6.mono HB5.out.size))
 clear hb6 tr
 (try go_wp2_with fail)
 refine hK.out _ _ (⟨HC6.out.cell (i:=0) rfl,HC6.out.cell (i:=1) rfl⟩) fun _=> ?_
 clear hK K hHeld
 rename_i hHeld
 (try go_frame)
 refine hp 7 ?_
 refine hp 8 ?_
 refine hd ?_
 clear hHeld
 have q1:=HC6.out.cell (i:=1) rfl
 have x0:=HP6.out.cell (i:=0) rfl
 have x1:=HP6.out.cell (i:=1) rfl
 have x2:=HP6.out.cell (i:=2) rfl
 have x3:=HP6.out.cell (i:=3) rfl
 have x4:=HP6.out.cell (i:=4) rfl
 have x5:=HP6.out.cell (i:=5) rfl
 have x6:=HP6.out.cell (i:=6) rfl
 have x7:=HP6.out.cell (i:=7) rfl
 go_wp2_with fail
 refine(oU 0 p1 c1 false _ _).mono ?_
 rintro e w7 ⟨rfl,hb7⟩
 have HP7:=Lib.hid (HP6.out.below hb7 HP6.out.lt)
 have HB7:=Lib.hid (HB6.out.trans (hb7.mono HB6.out.size))
 clear hb7 q1 x0 x1 x2 x3 x4 x5 x6 x7
 have x1:=HP7.out.cell (i:=1) rfl
 have x4:=HP7.out.cell (i:=4) rfl
 have x5:=HP7.out.cell (i:=5) rfl
 have x7:=HP7.out.cell (i:=7) rfl
 go_wp2_with fail
 refine(oU _ p2 c2 false _ _).mono ?_
 rintro e w8 ⟨rfl,hb8⟩
 have HB8:=Lib.hid (HB7.out.trans (hb8.mono HB7.out.size))
 clear hb8 x1 x4 x5 x7
 go_wp2_with fail
 go_ret
 exact⟨rfl,HB8.out⟩
theorem xK (root:ByteArray) (p1 p2:Option Addr) (c1 c2:Nat) (w:World) (hr:ak root (de [])):
  Calls Tryz.prog 313 #[.string root, .int .i64 0, .int .i64 0, .agg (jJ (.slice p1 0 c1) (.slice p2 0 c2)).toArray] w fun e w'=>e= .returned (.tuple #[.string ⟨#[]⟩, .bool false, .int .i64 0])∧Below w.heap.size w w':=by
 have HRT:=Lib.hid hr
 clear hr
 go_enter Tryz.func313,Tryz.ntmps313
 go_upto_region 2 with(first
  |((with_reducible refine ai 67 (.tmp 3) (jJ (.slice p1 0 c1) (.slice p2 0 c2)) (some 7) ?hgd ?ho ?hd ?hx ?_);(case hgd|ho|hd|hx=>rfl);(intro b7 w1 l1 B1 e1 z1))
  |((with_reducible refine af 411 [.string ⟨#[]⟩, .int .i64 0] xH (some 11) ?hgd ?ho ?hd ?_);(case hgd|ho|hd=>rfl);(intro b11 w2 l2 B2 e2 z2))
  |((with_reducible refine ae 411 (.tmp 11) (.tmp 14) b11 [.string ⟨#[]⟩, .int .i64 0] [.string root, .int .i64 0] 411 B2 rfl xI (zX _) ?hgd ?ho ?hx ?hy ?_);(case hgd|ho|hx|hy=>rfl);(intro w3 B3 o3))
  |fail)
 have hb3:Below w1.heap.size w1 w3:=o3.below (e2.mono l2) l2
 have HP3:=Lib.hid (B1.below hb3 B1.lt)
 have HC3:=Lib.hid B3
 have HB3:=Lib.hid ((e1.mono l1).trans (hb3.mono (by omega)))
 clear B1 B2 B3 e1 e2 l1 l2 z1 z2 o3 hb3
 go_wp2_with fail
 refine(lx 0 _ (by decide) (by decide)).mono ?_
 rintro e w' ⟨rfl,rfl⟩
 have x0:=HP3.out.cell (i:=0) rfl
 have x1:=HP3.out.cell (i:=1) rfl
 have y0:=HC3.out.cell (i:=0) rfl
 have y1:=HC3.out.cell (i:=1) rfl
 go_wp2_with (first
  |((with_reducible refine ag 67 (.tmp 7) b7 0 (jJ (.slice p1 0 c1) (.slice p2 0 c2)) _ (some 56) (HP3.out.range) Tryz.underlying67 rfl qw ?hg ?ho ?hds ?hx ?_);(case ho|hg|hds|hx=>rfl))
  |fail)
 refine(zY root p1 p2 c1 c2 _ HRT.out).mono ?_
 rintro e w4 ⟨rfl,hb4⟩
 have HB4:=Lib.hid (HB3.out.trans (hb4.mono HB3.out.size))
 clear hb4 x0 x1 y0 y1
 go_wp2_with fail
 (try simp only[Exit.inBlock,Exit.then]);refine bodyPost_ret (results_tmp3 rfl _ _ _) rfl ?_
 exact⟨rfl,HB4.out⟩
theorem zZ (vb:Nat) (d:ay) (st why:Int) (w:World) (h:bq w vb d):
  Calls Tryz.prog 236 #[.pointer (some ⟨vb,6,none⟩), .int .i64 st, .int .i64 why] w fun e w'=>e= .returned (.tuple #[])∧bW w w' vb d {d with state:=st,why:=why}:=by
 have HV:=Lib.hid h
 have B0:=h.blk
 clear h
 go_enter Tryz.func236,Tryz.ntmps236
 go_wp2_with (first
  |((with_reducible refine aj 3 (.tmp 11) (.tmp 8) vb 6 (.int .i64 st) _ _ B0 (Nat.le_of_ble_eq_true rfl) (by kernel_rfl) rfl ?hgd ?ho ?hx ?hy ?_);(case hgd|ho|hx|hy=>rfl);(intro w1 B1 o1))
  |((with_reducible refine aj 37 (.tmp 13) (.tmp 9) vb 7 (.int .i64 why) _ _ B1 (Nat.le_of_ble_eq_true rfl) (by kernel_rfl) rfl ?hgd ?ho ?hx ?hy ?_);(case hgd|ho|hx|hy=>rfl);(intro w2 B2 o2))
  |fail)
 go_end0
 exact⟨rfl,HV.out.put ((o1.turned (S:=[vb]) (by simp)).trans (o2.turned (by simp))) (d':={d with state:=st,why:=why}) B2⟩
theorem lE:(Tryz.prog.info? 368).map (fun i=>(i.zero,i.size,i.bytes))=some (some (.agg #[.int .i64 0, .int .i64 0, .int .i64 0, .int .i64 0, .string ⟨#[]⟩]),5,48):=by kernel_rfl
theorem xM {a b c e f:Value}:(Tryz.prog.info? 368).map (·.size)=some ([a,b,c,e,f]:List Value).length:=by kernel_rfl
theorem ru (vb:Nat) (d:ay) (w:World) (h:bq w vb d) (hna:d.na=1) (hvd:d.verd= .slice none 0 0):
  Calls Tryz.prog 311 #[.pointer (some ⟨vb,0,none⟩), .agg ([.int .i64 0, .int .i64 0, .int .i64 2, .int .i64 0, .string ⟨#[]⟩]:List Value).toArray] w fun e w'=>e= .returned (.tuple #[])∧∃v',bW w w' vb d {d with state:=5,why:=0,verd:=v'}:=by
 have HV:=Lib.hid h
 have HNA:=Lib.hid hna
 have HVD:=Lib.hid hvd
 clear h hna hvd
 go_enter Tryz.func311,Tryz.ntmps311
 go_upto_region 1 with(first
  |((with_reducible refine ai 368 (.tmp 1) ([.int .i64 0, .int .i64 0, .int .i64 2, .int .i64 0, .string ⟨#[]⟩]:List Value) (some 3) ?hgd ?ho ?hd ?hx ?_);(case hgd|ho|hd|hx=>rfl);(intro b0 w0 l0 B0 e0 z0))
  |fail)
 have HB0:=Lib.hid (show Below w.heap.size w w0 from e0.mono l0)
 have HXw0:=Lib.hid B0
 have HV0:=Lib.hid (HV.out.below HB0.out)
 have HMw0:=Lib.hid HV0.out.blk
 have HOw0:=Lib.hid (show w0.ownsRow 0 368 5 (.slice none 0 0) 0 []from World.ownsRow_nil _ 0 368 5)
 have HCK:=Lib.hid (show d.cells[54]?=some (.slice none 0 0)from by show some d.verd= _;rw[HVD.out])
 clear B0 e0 l0 z0
 (try go_frame)
 go_cut []from 4 to 15 (fun wx=>vq w0 wx vb 54 d.cells 113 368 5 (.slice none 0 0) (0+1) ([]++([.int .i64 0, .int .i64 0, .int .i64 2, .int .i64 0, .string ⟨#[]⟩]:List Value)))
 case first=>
  refine hb (fun wx=>wx.rangeAt b0 0 ([.int .i64 0, .int .i64 0, .int .i64 2, .int .i64 0, .string ⟨#[]⟩]:List Value)) (HXw0.out.drew.range) fun hHeld=> ?_
  obtain⟨wd,hwd⟩:∃wd,wd=w0.drew:=⟨_,rfl⟩
  have hbd:Below w0.heap.size w0 wd:=by rw[hwd];exact(Below.refl _ _).drew
  have HTw0:=Lib.hid (ab.refl (vb::((Value.slice none 0 0)).ownBlock.toList) w0)
  have HXwd:=Lib.hid (HXw0.out.below hbd HXw0.out.lt)
  have HMwd:=Lib.hid (HMw0.out.below hbd HMw0.out.lt)
  have HOwd:=Lib.hid (own_below hbd HOw0.out)
  have HTwd:=Lib.hid (HTw0.out.trans (ab.of_below hbd (Nat.le_refl _)))
  rw[←hwd]
  rw[←hwd]at hHeld
  clear hwd hbd
  obtain⟨i0,hi,hz0,hz1,hz2⟩:=info_parts lE
  refine hp 0 ?_
  refine hp 1 ?_
  refine hp 2 ?_
  refine hp 3 ?_
  refine hp 4 ?_
  refine hl 6 368 b0 0 (([.int .i64 0, .int .i64 0, .int .i64 2, .int .i64 0, .string ⟨#[]⟩]:List Value)) (fun w h=>h) Tryz.underlying368 xM ?_
  refine hc2 5 7 (fun K hK=> ?_) (fun K hK=> ?_)
  ·have c4:wd.cell? ⟨vb,54,none⟩=some ((Value.slice none 0 0)):=HMwd.out.cell (i:=54) HCK.out
   go_simp
   clear c4
   (try go_wp2_with fail)
   refine hK.out _ _ (HXwd.out.range) fun _=> ?_
   clear hK K hHeld
   rename_i hHeld
   (try go_frame)
   refine hc 7 fun K hK=> ?_
   refine dz 108 368 1 _ ([.int .i64 0, .int .i64 0, .int .i64 2, .int .i64 0, .string ⟨#[]⟩]:List Value) (.agg #[.int .i64 0, .int .i64 0, .int .i64 0, .int .i64 0, .string ⟨#[]⟩]) 5 48 Tryz.underlying108 lE (by omega) (by omega) rfl (by kernel_rfl) ?_
   intro g8 w8 l8 B8 e8 z8
   have hb8:Below wd.heap.size wd w8:=e8.mono l8
   have HG8:=Lib.hid B8
   have HXw8:=Lib.hid (HXwd.out.below hb8 HXwd.out.lt)
   have HMw8:=Lib.hid (HMwd.out.below hb8 HMwd.out.lt)
   have HOw8:=Lib.hid (own_below hb8 HOwd.out)
   have HTw8:=Lib.hid (HTwd.out.trans (ab.of_below hb8 (Nat.le_refl _)))
   clear B8 e8 z8 hb8 l8
   (try go_wp2_with fail)
   refine hK.out _ _ (HXw8.out.range) fun _=> ?_
   clear hK K hHeld
   rename_i hHeld
   (try go_frame)
   refine hc 8 fun K hK=> ?_
   refine dh _ _ 108 rfl i0 (.agg #[.int .i64 0, .int .i64 0, .int .i64 0, .int .i64 0, .string ⟨#[]⟩]) 48 Tryz.underlying108 hi hz0 hz1 hz2 rfl (by decide) rfl HOw8.out ⟨g8,0,none⟩ 1 1 ([.int .i64 0, .int .i64 0, .int .i64 2, .int .i64 0, .string ⟨#[]⟩]:List Value) rfl rfl (cj HG8.out) (by intro v hv;simp only[List.mem_cons,List.mem_nil_iff,or_false]at hv;rcases hv with rfl|rfl|rfl|rfl|rfl<;>rfl) (by decide) (by decide) (Nat.zero_le _) ?_
   intro v' w9 own9 grow9' near9'
   have grow9:w8.grownBy w9 ((Value.slice none 0 0)).ownBlock:=grow9'
   have near9:fC w8 ((Value.slice none 0 0)).ownBlock v'.ownBlock:=near9'
   clear grow9' near9'
   obtain⟨p9,q9,hsh⟩:=aQ own9
   subst hsh
   have HXw9:=Lib.hid (HXw8.out.grown grow9 (fun e=>by cases e))
   have HMw9:=Lib.hid (HMw8.out.grown grow9 (fun e=>absurd (show 368=113 from(aV HOw8.out e.symm).eq HMw8.out.ty) (by decide)))
   have HO9:=Lib.hid own9
   have HNE:=Lib.hid (near9.back HTw8.out.size)
   have HTw9:=Lib.hid (HTw8.out.trans (ab.of_grown grow9 (fun k hk=>by simp[hk])))
   clear own9 grow9 near9
   (try go_wp2_with fail)
   refine hK.out _ _ (HXw9.out.range) fun _=> ?_
   clear hK K hHeld
   rename_i hHeld
   (try go_frame)
   refine hp 9 ?_
   refine hp 10 ?_
   refine hp 11 ?_
   have c4:=HMw9.out.cell (i:=54) HCK.out
   have f4:=HMw9.out.free 54
   refine hc 12 fun K hK=> ?_
   go_simp
   have HXwx:=Lib.hid (HXw9.out.set_other (a:=⟨vb,54,none⟩) (fun e=>absurd ((e ▸ HXw9.out.ty).eq HMw9.out.ty) (by decide)) (.slice p9 (0+1) q9))
   have HMwx:=Lib.hid (HMw9.out.set 54 (.slice p9 (0+1) q9))
   have HTwx:=Lib.hid (HTw9.out.setCell (b:=vb) (.inl (by simp)) 54 (.slice p9 (0+1) q9))
   have HOx:=Lib.hid (aB HO9.out ((ab.refl [vb] w9).setCell (b:=vb) (.inl (by simp)) 54 (.slice p9 (0+1) q9)) (fun k hk=>(aV HO9.out hk).notin (bZ.one HMw9.out.ty) (by decide)))
   clear c4 f4
   (try go_wp2_with fail)
   refine hK.out _ _ (HXwx.out.range) fun _=> ?_
   clear hK K hHeld
   rename_i hHeld
   (try go_frame)
   refine hd ?_
   clear hHeld
   (try go_wp2_with fail)
   go_meet
   exact⟨_,by exact HOx.out,HMwx.out,HTwx.out,HNE.out⟩
  ·refine dz 108 368 1 _ ([.int .i64 0, .int .i64 0, .int .i64 2, .int .i64 0, .string ⟨#[]⟩]:List Value) (.agg #[.int .i64 0, .int .i64 0, .int .i64 0, .int .i64 0, .string ⟨#[]⟩]) 5 48 Tryz.underlying108 lE (by omega) (by omega) rfl (by kernel_rfl) ?_
   intro g8 w8 l8 B8 e8 z8
   have hb8:Below wd.heap.size wd w8:=e8.mono l8
   have HG8:=Lib.hid B8
   have HXw8:=Lib.hid (HXwd.out.below hb8 HXwd.out.lt)
   have HMw8:=Lib.hid (HMwd.out.below hb8 HMwd.out.lt)
   have HOw8:=Lib.hid (own_below hb8 HOwd.out)
   have HTw8:=Lib.hid (HTwd.out.trans (ab.of_below hb8 (Nat.le_refl _)))
   clear B8 e8 z8 hb8 l8
   (try go_wp2_with fail)
   refine hK.out _ _ (HXw8.out.range) fun _=> ?_
   clear hK K hHeld
   rename_i hHeld
   (try go_frame)
   refine hc 5 fun K hK=> ?_
   have c4:w8.cell? ⟨vb,54,none⟩=some ((Value.slice none 0 0)):=HMw8.out.cell (i:=54) HCK.out
   go_simp
   clear c4
   (try go_wp2_with fail)
   refine hK.out _ _ (HXw8.out.range) fun _=> ?_
   clear hK K hHeld
   rename_i hHeld
   (try go_frame)
   refine hc 8 fun K hK=> ?_
   refine dh _ _ 108 rfl i0 (.agg #[.int .i64 0, .int .i64 0, .int .i64 0, .int .i64 0, .string ⟨#[]⟩]) 48 Tryz.underlying108 hi hz0 hz1 hz2 rfl (by decide) rfl HOw8.out ⟨g8,0,none⟩ 1 1 ([.int .i64 0, .int .i64 0, .int .i64 2, .int .i64 0, .string ⟨#[]⟩]:List Value) rfl rfl (cj HG8.out) (by intro v hv;simp only[List.mem_cons,List.mem_nil_iff,or_false]at hv;rcases hv with rfl|rfl|rfl|rfl|rfl<;>rfl) (by decide) (by decide) (Nat.zero_le _) ?_
   intro v' w9 own9 grow9' near9'
   have grow9:w8.grownBy w9 ((Value.slice none 0 0)).ownBlock:=grow9'
   have near9:fC w8 ((Value.slice none 0 0)).ownBlock v'.ownBlock:=near9'
   clear grow9' near9'
   obtain⟨p9,q9,hsh⟩:=aQ own9
   subst hsh
   have HXw9:=Lib.hid (HXw8.out.grown grow9 (fun e=>by cases e))
   have HMw9:=Lib.hid (HMw8.out.grown grow9 (fun e=>absurd (show 368=113 from(aV HOw8.out e.symm).eq HMw8.out.ty) (by decide)))
   have HO9:=Lib.hid own9
   have HNE:=Lib.hid (near9.back HTw8.out.size)
   have HTw9:=Lib.hid (HTw8.out.trans (ab.of_grown grow9 (fun k hk=>by simp[hk])))
   clear own9 grow9 near9
   (try go_wp2_with fail)
   refine hK.out _ _ (HXw9.out.range) fun _=> ?_
   clear hK K hHeld
   rename_i hHeld
   (try go_frame)
   refine hp 9 ?_
   refine hp 10 ?_
   refine hp 11 ?_
   have c4:=HMw9.out.cell (i:=54) HCK.out
   have f4:=HMw9.out.free 54
   refine hc 12 fun K hK=> ?_
   go_simp
   have HXwx:=Lib.hid (HXw9.out.set_other (a:=⟨vb,54,none⟩) (fun e=>absurd ((e ▸ HXw9.out.ty).eq HMw9.out.ty) (by decide)) (.slice p9 (0+1) q9))
   have HMwx:=Lib.hid (HMw9.out.set 54 (.slice p9 (0+1) q9))
   have HTwx:=Lib.hid (HTw9.out.setCell (b:=vb) (.inl (by simp)) 54 (.slice p9 (0+1) q9))
   have HOx:=Lib.hid (aB HO9.out ((ab.refl [vb] w9).setCell (b:=vb) (.inl (by simp)) 54 (.slice p9 (0+1) q9)) (fun k hk=>(aV HO9.out hk).notin (bZ.one HMw9.out.ty) (by decide)))
   clear c4 f4
   (try go_wp2_with fail)
   refine hK.out _ _ (HXwx.out.range) fun _=> ?_
   clear hK K hHeld
   rename_i hHeld
   (try go_frame)
   refine hd ?_
   clear hHeld
   (try go_wp2_with fail)
   go_meet
   exact⟨_,by exact HOx.out,HMwx.out,HTwx.out,HNE.out⟩
 case rest=>
 obtain⟨lv',hown,hblk,hturn0,hnear⟩:=hcut.ex
 have hturn:ab [vb] w0 wc:=by simpa[Value.ownBlock]using hturn0
 obtain⟨pv,cv,hpv⟩:=aQ hown
 have hpv':lv'= .slice pv 1 cv:=hpv
 subst hpv'
 have V1:=Lib.hid (HV0.out.put hturn (d':={d with verd:= .slice pv 1 cv}) hblk)
 have HA1:=Lib.hid V1.out.at'
 obtain⟨pa,ca,hpa⟩:=aQ HA1.out.asks
 have HPA:=Lib.hid (show d.asks= .slice pa 1 ca by rw[←HNA.out];exact hpa)
 clear hcut hown hblk hturn hturn0 hnear hpv hpa HMw0 HOw0 HXw0
 go_upto_region 2 with fail
 refine hb (fun w'=>w'.cell? ⟨vb,54,none⟩=some (.slice pv 1 cv)∧w'.cell? ⟨vb,9,none⟩=some (.slice pa 1 ca)) (⟨HA1.out.blk.drew.cell (i:=54) rfl,(by rw[←HPA.out];exact HA1.out.blk.drew.cell (i:=9) rfl)⟩) fun hHeld=> ?_
 refine hp 0 ?_
 refine hp 1 ?_
 refine hp 2 ?_
 refine hp 3 ?_
 refine hp 4 ?_
 refine hp 5 ?_
 refine hp 6 ?_
 refine hp 7 ?_
 refine hp 8 ?_
 refine hp 9 ?_
 refine hp 10 ?_
 refine hp 11 ?_
 refine hp 12 ?_
 refine hd ?_
 clear hHeld
 have VD:=Lib.hid (bW.ahead HB0.out (V1.out.below (Below.refl _ _).drew))
 go_wp2_with fail
 refine(zZ vb _ 5 0 _ VD.out.at').mono ?_
 rintro e w3 ⟨rfl,v3⟩
 have V3:=Lib.hid (VD.out.trans v3)
 clear v3
 go_wp2_with fail
 go_end0
 exact⟨rfl,_,V3.out⟩
theorem qx (w:World):(zeroValue 59).run Tryz.prog w= .ok (.agg Rec.zero.cells.toArray) w:=by kernel_rfl
theorem Ce (w:World):(zeroValue 61).run Tryz.prog w= .ok (.agg (ax.cells ⟨Rec.zero,⟨#[]⟩⟩).toArray) w:=by kernel_rfl
theorem rx (vb:Nat) (d:ay) (x:ax) (w:World) (h:bq w vb d) (hl:d.l=[x]) (hk:x.r.kind=1) (he:x.r.epoch=0):
  Calls Tryz.prog 312 #[.pointer (some ⟨vb,0,none⟩), .int .i64 0] w fun e w'=>e= .returned (.agg x.r.cells.toArray)∧Below w.heap.size w w':=by
 have HV:=Lib.hid h
 have HL:=Lib.hid hl
 have HK:=Lib.hid hk
 have HE:=Lib.hid he
 clear h hl hk he
 go_enter Tryz.func312,Tryz.ntmps312
 go_upto_region 1 with(first
  |((with_reducible refine af 59 _ qx (some 4) ?hgd ?ho ?hd ?_);(case hgd|ho|hd=>rfl);(intro b4 w1 l1 B1 e1 z1))
  |fail)
 have hrow:=(HV.out.below (e1.mono l1)).rows
 rw[HL.out]at hrow
 obtain⟨g,c,hg⟩:∃g c,d.lv= .slice (some ⟨g,0,none⟩) 1 c:=by
  rcases hrow.2 with⟨_,h0⟩|⟨g,cap,cur,hh,_⟩
  ·cases h0
  ·exact⟨g,cap,hh⟩
 rw[hg]at hrow
 have HRW:=Lib.hid (show w1.ownsRow 0 61 9 (.slice (some ⟨g,0,none⟩) 1 c) 1 x.cells from by simpa[dP]using hrow)
 have HX4:=Lib.hid B1
 have HL4:=Lib.hid l1
 have HB1:=Lib.hid (e1.mono l1)
 have v52:w1.cell? ⟨vb,52,none⟩=some (.slice (some ⟨g,0,none⟩) 1 c):=by rw[←hg];exact(HV.out.below HB1.out).blk.cell (i:=52) rfl
 clear B1 e1 l1 z1 hrow hg
 go_wp2_with fail
 go_loopw [13] (fun i wr=>i= .int .i64 0∧wr=w1) (fun _ _=>0)
 case atStart=>exact⟨rfl,rfl⟩
 case round=>
  obtain⟨rfl,rfl⟩:=hrel
  have HRG:=Lib.hid (show wr.rangeAt g 0 x.cells from by
   intro j u hu
   have h9:j<9:=(List.getElem?_eq_some_iff.1 hu).1
   rw[Nat.zero_add,World.ownsRow.cellAt HRW.out j (by omega)];exact hu)
  go_wp2_with (first
   |((with_reducible refine ag 61 (.tmp 15) g 0 (x.cells) _ (some 16) (HRG.out) Tryz.underlying61 rfl kY ?hg ?ho ?hds ?hx ?_);(case ho|hg|hds|hx=>rfl))
   |((with_reducible refine af 61 _ Ce (some 6) ?hgd ?ho ?hd ?_);(case hgd|ho|hd=>rfl);(intro b6 w2 l2 B2 e2 z2))
   |((with_reducible refine ae 61 (.tmp 6) (.tmp 16) b6 (ax.cells ⟨Rec.zero,⟨#[]⟩⟩) x.cells 61 B2 rfl kY (nw _) ?hgd ?ho ?hx ?hy ?_);(case hgd|ho|hx|hy=>rfl);(intro w3 B3 o3;have k0:w3.cell? ⟨b6,0,none⟩=some (.int .i64 1):=(by rw[←HK.out];exact B3.cell (i:=0) rfl);have k1:w3.cell? ⟨b6,1,none⟩=some (.int .i64 0):=(by rw[←HE.out];exact B3.cell (i:=1) rfl);have HR3:=Lib.hid (show w3.rangeAt b6 0 x.r.cells from fun j u hu=>B3.range j u (by have h8:j<8:=(List.getElem?_eq_some_iff.1 hu).1;rw[←hu];obtain _|_|_|_|_|_|_|_|j:=j<;>first|rfl|omega));have hb3:Below wr.heap.size wr w3:=o3.below (e2.mono l2) l2;have HX43:=Lib.hid (HX4.out.below hb3 HX4.out.lt);have HB3:=Lib.hid (HB1.out.trans (hb3.mono HB1.out.size));clear B2 e2 l2 z2 B3 o3 hb3))
   |((with_reducible refine ag 59 (.tmp 28) b6 0 (x.r.cells) _ (some 29) (HR3.out) Tryz.underlying59 rfl aS ?hg ?ho ?hds ?hx ?_);(case ho|hg|hds|hx=>rfl))
   |((with_reducible refine ae 59 (.tmp 4) (.tmp 29) b4 Rec.zero.cells x.r.cells 59 HX43.out rfl aS (nt _) ?hgd ?ho ?hx ?hy ?_);(case hgd|ho|hx|hy=>rfl);(intro w5 B5 o5))
   |fail)
  (try simp only[Exit.inBlock,Exit.then]);refine bodyPost_ret (dO rfl _ _ B5.range rfl Tryz.underlying59 rfl aS) rfl ⟨rfl,o5.below HB3.out HL4.out⟩
end Go.Proofs.YtngiibgdgenidaaGreat
