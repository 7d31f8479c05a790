/- A record is sealed (chapter 26): held, where there is no ring. A journal within a volume (chapter 25): next, time. A journal within a volume (chapter 25): Close. A volume's blocks (chapter 26): a block of another type is none of them, and what is turned beside them leaves it. -/
import Derived.Test.YtgimkmclgjfddaaGreatQ18
import Derived.Test.YtgimkmclgjfddaaGreatQ14
import Derived.Test.YtgimkmclgjfddaaGreatQ9
import Derived.Test.YtgimkmclgjfddaaGreatQ16
import Derived.Test.YtgimkmclgjfddaaGreatQ13
import Derived.Test.YtgimkmclgjfddaaGreatQ11
import Derived.Test.YtgimkmclgjfddaaGreatQ15
set_option linter.unusedSimpArgs false
set_option linter.unusedVariables false
set_option maxRecDepth 100000
set_option maxHeartbeats 4000000
namespace Go.Proofs.YtgimkmclgjfddaaGreat
open Go Go.RowKit
theorem uU (w:World):Sem.run Tryz.prog (zeroValue 27) w= .ok (.agg (aH.cells ⟨Rec.zero,⟨#[]⟩⟩).toArray) w:=by kernel_rfl
theorem ml {x:aH}:(Tryz.prog.info? 27).map (·.size)=some x.cells.length:=by kernel_rfl
theorem j5 (x:aH):∀v∈x.cells,v.oneCell'=true:=by intro v hv;simp[aH.cells]at hv;rcases hv with rfl|rfl|rfl|rfl|rfl|rfl|rfl|rfl|rfl<;>rfl
theorem Bj (r:Rec) (t:ByteArray):Tryz.prog.built 27 [(0, .agg r.cells.toArray),(1, .string t)]=some (aH.cells ⟨r,t⟩).toArray:=by obtain⟨a,b,c,d,e,f,g,h⟩:=r;kernel_rfl
theorem Bl (i:aV) (v:bk) (r:Rec) (w:World) (h:bA w i v) (hrv:i.rv= .pointer none) (hk:v.key.size=32) (hok:fJ (cE v.sealed) (v.sealed.length:Int) r) (hroot:r.root.size≤1048576) (hname:r.name.size≤1048576) (hf:Fits r.epoch) (hns:v.sealed.length≤1048576):
  Calls Tryz.prog 143 #[.pointer (some ⟨i.vb,0,none⟩),r.v] w fun e w'=>(∃t bl,e= .returned (.tuple #[.agg (aH.cells ⟨r,t⟩).toArray, .string bl])∧aj t (pi v.key.data.toList (cE v.sealed).data.toList (v.sealed.length:Int) r)∧aj bl (holdL (dR r++t.data.toList)))∧Below w.heap.size w w':=by
 have HK:=Lib.hid (show v.key.size=32∧fJ (cE v.sealed) (v.sealed.length:Int) r from⟨hk,hok⟩)
 have HF:=Lib.hid (show(r.root.size≤1048576∧r.name.size≤1048576)∧Fits r.epoch∧Fits (v.sealed.length:Int)from⟨⟨hroot,hname⟩,hf,by unfold Fits;omega⟩)
 have HRV:=Lib.hid hrv
 have HNS:=Lib.hid hns
 have HRO:=Lib.hid hok.2.2.2
 have H0:=Lib.hid h
 obtain⟨sp,sc,hsv⟩:=aT h.sealed
 have HSV:=Lib.hid hsv
 clear hk hok hroot hname hf hns h hrv hsv
 go_enter Tryz.func143,Tryz.ntmps143
 go_upto_region 1 with(first
  |((with_reducible refine ag 25 (.tmp 1) r.cells (some 3) ?hgd ?ho ?hd ?hx ?_);(case hgd|ho|hd|hx=>rfl);(intro b3 w1 l1 B1 e1 z1))
  |((with_reducible refine ai 27 _ uU (some 4) ?hgd ?ho ?hd ?_);(case hgd|ho|hd=>rfl);(intro b4 w2 l2 B2 e2 z2))
  |fail)
 have HX1:=Lib.hid (B1.below e2 (by omega))
 have HB4:=Lib.hid B2
 have HL4:=Lib.hid (show w.heap.size≤b4 from by omega)
 have HBE1:=Lib.hid ((e1.mono l1).trans (e2.mono (by omega)))
 have H1:=Lib.hid (H0.out.below HBE1.out)
 clear B1 B2 e1 e2 l1 l2 z1 z2
 refine wp_region_held_drew (S:=fun wx=>wx.rangeAt b3 0 r.cells∧wx.cell? ⟨i.vb,7,none⟩=some (.pointer none)∧wx.cell? ⟨i.vb,1,none⟩=some (.string v.key)∧wx.cell? ⟨i.vb,4,none⟩=some (.slice sp v.sealed.length sc)) (by kernel_rfl) (⟨HX1.out.drew.range,(by rw[←HRV.out];exact H1.out.vol.drew.cell (i:=7) rfl),H1.out.vol.drew.cell (i:=1) rfl,(by rw[←HSV.out];exact H1.out.vol.drew.cell (i:=4) rfl)⟩) (fun hHeld=> ?_)
 obtain⟨wd,hwd⟩:∃wd,wd=w2.drew:=⟨_,rfl⟩
 have hbd:Below w2.heap.size w2 wd:=by rw[hwd];exact(Below.refl _ _).drew
 have Hd:=Lib.hid (H1.out.below hbd)
 have HXd:=Lib.hid (HX1.out.below hbd HX1.out.lt)
 have HB4d:=Lib.hid (HB4.out.below hbd HB4.out.lt)
 have HBEd:=Lib.hid (HBE1.out.trans (hbd.mono HBE1.out.size))
 rw[←hwd]
 rw[←hwd]at hHeld
 clear hwd hbd
 refine hp 0 ?_
 refine hp 1 ?_
 refine hp 2 ?_
 refine hp 3 ?_
 refine hp 4 ?_
 refine hp 5 ?_
 refine hp 6 ?_
 refine hp 7 ?_
 refine hp 8 ?_
 refine hp 9 ?_
 refine hp 10 ?_
 refine hp 11 ?_
 refine hp 13 ?_
 refine hp 14 ?_
 refine hp 15 ?_
 refine hp 16 ?_
 refine hp 17 ?_
 refine wpAnyH_take (i:=18) (v:= .agg (r.cells).toArray) rfl (by kernel_rfl) (by kernel_rfl) (by kernel_rfl) (fun _ _ _ h=>h) (yieldsIf_load_mid (by rfl) 25 (.tmp 3) rfl b3 0 rfl (r.cells) _ (fun w h=>h.1) Tryz.underlying25 rfl aI) (by assumption) ?_
 (try go_frame)
 refine wpAnyH_ready (rs:=[12]) (by kernel_rfl) (by simp) ?_
 refine AllReadyH.cons rfl (fun K hK=> ?_) AllReadyH.nil
 go_simp
 refine(pY (.slice sp v.sealed.length sc) v.sealed _ (de.own (by rw[←HSV.out];exact Hd.out.sealed) rfl) HNS.out).mono ?_
 rintro e we ⟨rfl,hbe⟩
 have He:=Lib.hid (Hd.out.below hbe)
 have HXe:=Lib.hid (HXd.out.below hbe HXd.out.lt)
 have HB4e:=Lib.hid (HB4d.out.below hbe HB4d.out.lt)
 have HBEe:=Lib.hid (HBEd.out.trans (hbe.mono HBEd.out.size))
 clear hbe
 (try go_wp2_with fail)
 refine hK.out _ _ (⟨HXe.out.range,(by rw[←HRV.out];exact He.out.vol.cell (i:=7) rfl),He.out.vol.cell (i:=1) rfl,(by rw[←HSV.out];exact He.out.vol.cell (i:=4) rfl)⟩) (fun hHeld2=> ?_)
 clear hK K hHeld
 have hHeld:=hHeld2
 clear hHeld2
 (try go_frame)
 refine wpAnyH_ready (rs:=[19]) (by kernel_rfl) (by simp) ?_
 refine AllReadyH.cons rfl (fun K hK=> ?_) AllReadyH.nil
 go_simp
 refine(uS v.key (cE v.sealed) (v.sealed.length:Int) r _ HK.out.1 HK.out.2 HF.out.1.1 HF.out.1.2 HF.out.2.1 HF.out.2.2).mono ?_
 rintro e wf ⟨⟨t,rfl,tt⟩,hbf⟩
 have HTT:=Lib.hid tt
 have Hf:=Lib.hid (He.out.below hbf)
 have HXf:=Lib.hid (HXe.out.below hbf HXe.out.lt)
 have HB4f:=Lib.hid (HB4e.out.below hbf HB4e.out.lt)
 have HBEf:=Lib.hid (HBEe.out.trans (hbf.mono HBEe.out.size))
 clear hbf tt
 (try go_wp2_with fail)
 refine hK.out _ _ (⟨HXf.out.range,(by rw[←HRV.out];exact Hf.out.vol.cell (i:=7) rfl),Hf.out.vol.cell (i:=1) rfl,(by rw[←HSV.out];exact Hf.out.vol.cell (i:=4) rfl)⟩) (fun hHeld2=> ?_)
 clear hK K hHeld
 have hHeld:=hHeld2
 clear hHeld2
 (try go_frame)
 refine hp 20 ?_
 refine wpAnyH_done (by kernel_rfl) ?_ _
 clear hHeld
 go_wp2_with (first
  |((with_reducible refine ar 25 (.tmp 3) b3 r.cells 25 _ HXf.out Tryz.underlying25 rfl aI ?hgd ?ho ?hx ?_);(case hgd|ho|hx=>rfl))
  |fail)
 refine(jl r _ HF.out.1.1 HF.out.1.2 HF.out.2.1).mono ?_
 rintro e w5 ⟨he,hb5⟩
 obtain⟨q,rfl,tq⟩:∃q,e= .returned (.tuple #[.string q, .int .i64 0])∧aj q (dR r):=by
  rcases he with⟨_,h⟩|⟨h,_⟩
  ·exact h
  ·rw[HRO.out]at h;cases h
 have HTQ:=Lib.hid tq
 have HX5:=Lib.hid (HXf.out.below hb5 HXf.out.lt)
 have HB5:=Lib.hid (HB4f.out.below hb5 HB4f.out.lt)
 have HBE5:=Lib.hid (HBEf.out.trans (hb5.mono HBEf.out.size))
 have hts:t.size=32:=by rw[HTT.out.size,fK]
 have hqs:q.size≤85:=by rw[tq.size];exact ct HRO.out
 have hcat:¬9223372036854775807<q.size+t.size:=by omega
 have HCS:=Lib.hid (show 1≤(q++t).size∧(q++t).size≤4000 from by rw[ByteArray.size_append];omega)
 have HQT:=Lib.hid (show(q++t).data.toList=dR r++t.data.toList from by rw[ByteArray.data_append,Array.toList_append,show q.data.toList= _ from tq])
 clear he hb5 tq hts hqs
 go_wp2_with fail
 refine(hold_walk (q++t) _ HCS.out.1 HCS.out.2).mono ?_
 rintro e w6 ⟨⟨z,rfl,tz⟩,hb6⟩
 have HTZ:=Lib.hid tz
 have HX6:=Lib.hid (HX5.out.below hb6 HX5.out.lt)
 have HB6:=Lib.hid (HB5.out.below hb6 HB5.out.lt)
 have HBE6:=Lib.hid (HBE5.out.trans (hb6.mono HBE5.out.size))
 clear hb6 tz
 go_wp2_with (first
  |((with_reducible refine ar 25 (.tmp 3) b3 r.cells 25 _ HX6.out Tryz.underlying25 rfl aI ?hgd ?ho ?hx ?_);(case hgd|ho|hx=>rfl))
  |((with_reducible refine aw 27 ?parts45 (aH.cells ⟨r,t⟩) ?hg ?ho ?hf ?_);(case hg|ho=>rfl);(case hf=>(refine Eq.trans ?_ (Bj r t);kernel_rfl)))
  |((with_reducible refine af 27 (.tmp 4) (.tmp 45) b4 (aH.cells ⟨Rec.zero,⟨#[]⟩⟩) (aH.cells ⟨r,t⟩) 27 HB6.out rfl ml (j5 _) ?hgd ?ho ?hx ?hy ?_);(case hgd|ho|hx|hy=>rfl);(intro w9 B9 o9))
  |fail)
 (try simp only[Exit.inBlock,Exit.then]);refine bodyPost_ret (bQ rfl _ _ B9.range rfl Tryz.underlying27 rfl ml) rfl ⟨⟨t,z,rfl,HTT.out,HTZ.out.cast (by rw[HQT.out])⟩,o9.below HBE6.out HL4.out⟩
theorem lK (s:aE) (w:World) (hs:fS s) (hg:s.gen≠1152921504606846976):
  Calls Tryz.prog 260 #[s.v] w fun e w'=>e= .returned (.tuple #[({s with gen:=s.gen+1}:aE).v, .int .i64 0])∧Below w.heap.size w w':=by
 have HS:=Lib.hid hs
 have hq:(s.gen==1152921504606846976)=false:=beq_eq_false_iff_ne.2 hg
 have hb:s.gen+1≤1152921504606846976:=by have:=hs.g1;omega
 have hb0:0≤s.gen:=by have:=hs.g0;omega
 obtain⟨gen,tail,epoch,clock,⟨blocks,lbas,first⟩⟩:=s
 simp only at hq hb hb0
 have HHB:=Lib.hid (And.intro hb hb0)
 have HQ:=Lib.hid hq
 have hw:wrap64 (gen+1)=gen+1:=by unfold wrap64;omega
 clear hs hg hb hb0 hq
 go_enter Tryz.func260,Tryz.ntmps260
 go_wp2_with (first
  |((with_reducible refine ag 130 (.tmp 0) (aE.cells ⟨gen,tail,epoch,clock,⟨blocks,lbas,first⟩⟩) (some 1) ?hgd ?ho ?hd ?hx ?_);(case hgd|ho|hd|hx=>rfl);(intro b1 w1 l1 B1 e1 z1))
  |((with_reducible refine ai 130 _ dT (some 2) ?hgd ?ho ?hd ?_);(case hgd|ho|hd=>rfl);(intro b2 w2 l2 B2 e2 z2;have B1':=B1.below e2 (Nat.lt_of_lt_of_le z1 l2)))
  |((with_reducible refine ar 130 (.tmp 1) b1 (aE.cells ⟨gen,tail,epoch,clock,⟨blocks,lbas,first⟩⟩) 130 _ B1' Tryz.underlying130 rfl aY ?hgd ?ho ?hx ?_);(case hgd|ho|hx=>rfl))
  |fail)
 refine(mP ⟨gen,tail,epoch,clock,⟨blocks,lbas,first⟩⟩ _ HS.out).mono ?_
 rintro e w3 ⟨rfl,hb3⟩
 have HB1:=Lib.hid (B1'.below hb3 B1'.lt)
 have HB2:=Lib.hid (B2.below hb3 B2.lt)
 have HL:=Lib.hid (show w.heap.size≤b1∧b1<b2 from⟨l1,by omega⟩)
 have HBE:=Lib.hid (((e1.mono l1).trans (e2.mono (Nat.le_trans l1 (Nat.le_trans (Nat.le_of_lt z1) l2)))).trans (hb3.mono (by omega)))
 have c0:=HB1.out.cell (i:=0) rfl
 have f0:=HB1.out.free 0
 have hq:=HQ.out
 clear hb3 B1 B1' B2 e1 e2 z1 z2 l1 l2
 go_upto_region 7 with fail
 obtain⟨w4,hw4⟩:∃w4,w3.setCell ⟨b1,0,none⟩ (.int .i64 (gen+1))=w4:=⟨_,rfl⟩
 have HB1b:=Lib.hid (show ab w4 b1 (aE.cells ⟨gen+1,tail,epoch,clock,⟨blocks,lbas,first⟩⟩) 130 from by rw[←hw4];exact(HB1.out.set 0 _).ext rfl)
 have HB2b:=Lib.hid (show ab w4 b2 aE.zero.cells 130 from by rw[←hw4];exact HB2.out.set_other (by show b2≠b1;have:=HL.out;omega) _)
 have HBEb:=Lib.hid (show Below w.heap.size w w4 from by rw[←hw4];exact HBE.out.setCell (p:=⟨b1,0,none⟩) HL.out.1 _)
 rw[hw4]
 clear hw4 c0 f0 hq
 go_wp2_with (first
  |((with_reducible refine ar 130 (.tmp 1) b1 (aE.cells ⟨gen+1,tail,epoch,clock,⟨blocks,lbas,first⟩⟩) 130 _ HB1b.out Tryz.underlying130 rfl aY ?hgd ?ho ?hx ?_);(case hgd|ho|hx=>rfl))
  |((with_reducible refine af 130 (.tmp 2) (.tmp 19) b2 aE.zero.cells (aE.cells ⟨gen+1,tail,epoch,clock,⟨blocks,lbas,first⟩⟩) 130 HB2b.out rfl aY (dH _) ?hgd ?ho ?hx ?hy ?_);(case hgd|ho|hx|hy=>rfl);(intro w9 B9 o9))
  |fail)
 (try simp only[Exit.inBlock,Exit.then]);refine bodyPost_ret (bQ rfl _ _ B9.range rfl Tryz.underlying130 rfl aY) rfl ⟨rfl,o9.below HBEb.out (by have:=HL.out;omega)⟩
theorem zo (i:aV) (v:bk) (t:Int) (w:World) (h:bA w i v) (h0:v.last.clock≤t) (h1:t≤1099511627776):
  Calls Tryz.prog 252 #[.pointer (some ⟨i.jb,0,none⟩), .int .i64 t] w fun e w'=>e= .returned (.bool true)∧w=w':=by
 have c5:w.cell? ⟨i.jb,5,none⟩=some (.int .i64 v.last.clock):=h.jour.cell (i:=5) rfl
 go_enter Tryz.func252,Tryz.ntmps252
 go_wp2_with fail
 go_ret
 first|exact⟨rfl,rfl⟩|exact⟨bp (by simp;omega),rfl⟩|exact⟨bp (by simp),rfl⟩
theorem zp (i:aV) (v:bk) (t:Int) (w:World) (h:bA w i v) (ok:iC v) (hg:v.last.gen≠1152921504606846976):
  Calls Tryz.prog 251 #[.pointer (some ⟨i.jb,0,none⟩), .int .i64 t] w fun e w'=>e= .returned (.tuple #[(⟨v.last.gen+1,v.used,v.last.epoch,t,v.last.geo⟩:aE).v, .int .i64 0])∧Below w.heap.size w w':=by
 have HN:=Lib.hid (fun(wx:World)=>lK v.last wx ok.sup hg)
 have HOK:=Lib.hid ok
 have H0:=Lib.hid h
 obtain⟨⟨gen,tail,epoch,clock,⟨blocks,lbas,first⟩⟩,hl⟩:∃s,v.last=s:=⟨_,rfl⟩
 have HLA:=Lib.hid hl
 have hR:w.rangeAt i.jb 2 (aE.cells ⟨gen,tail,epoch,clock,⟨blocks,lbas,first⟩⟩):=by have:=mc h.jour;rw[hl]at this;exact this
 have hn:∀wx,Calls Tryz.prog 260 #[.agg #[.int .i64 gen, .int .i64 tail, .int .i64 epoch, .int .i64 clock, .int .i64 blocks, .int .i64 lbas, .int .i64 first]] wx fun e w'=>e= .returned (.tuple #[.agg #[.int .i64 (gen+1), .int .i64 tail, .int .i64 epoch, .int .i64 clock, .int .i64 blocks, .int .i64 lbas, .int .i64 first], .int .i64 0])∧Below wx.heap.size wx w':=by
  intro wx
  have:=HN.out wx
  rw[hl]at this
  exact this
 have HNN:=Lib.hid hn
 rw[hl]
 clear ok hg hl hn h
 go_enter Tryz.func251,Tryz.ntmps251
 go_wp2_with (first
  |((with_reducible refine ai 130 _ dT (some 4) ?hgd ?ho ?hd ?_);(case hgd|ho|hd=>rfl);(intro b4 w1 l1 B4 e1 z1;have HR1:=Lib.hid (show w1.rangeAt i.jb 2 (aE.cells ⟨gen,tail,epoch,clock,⟨blocks,lbas,first⟩⟩)from by have:=mc (H0.out.jour.below (e1.mono l1) H0.out.jour.lt);rw[HLA.out]at this;exact this)))
  |((with_reducible refine ae 130 (.tmp 11) i.jb 2 (aE.cells ⟨gen,tail,epoch,clock,⟨blocks,lbas,first⟩⟩) _ (some 12) HR1.out Tryz.underlying130 rfl aY ?hg ?ho ?hds ?hx ?_);(case ho|hg|hds|hx=>rfl))
  |fail)
 refine(HNN.out _).mono ?_
 rintro e w2 ⟨rfl,hb2⟩
 have HB4:=Lib.hid (B4.below hb2 z1)
 have HL4:=Lib.hid l1
 have HBE2:=Lib.hid ((e1.mono l1).trans (hb2.mono (Nat.le_trans l1 (Nat.le_of_lt z1))))
 clear hb2 B4 e1 z1 l1
 go_upto_region 2 with(first
  |((with_reducible refine ai 130 _ dT (some 6) ?hgd ?ho ?hd ?_);(case hgd|ho|hd=>rfl);(intro b6 w3 l6 B6 e6 z6))
  |((with_reducible refine af 130 (.tmp 6) (.tmp 14) b6 aE.zero.cells (aE.cells ⟨gen+1,tail,epoch,clock,⟨blocks,lbas,first⟩⟩) 130 B6 rfl aY (dH _) ?hgd ?ho ?hx ?hy ?_);(case hgd|ho|hx|hy=>rfl);(intro w8 B8 o8))
  |fail)
 have HB6:=Lib.hid B8
 have HL6:=Lib.hid (show w.heap.size≤b6∧b4<b6 from⟨Nat.le_trans HBE2.out.size l6,Nat.lt_of_lt_of_le HB4.out.lt l6⟩)
 have HBE3:=Lib.hid (o8.below (HBE2.out.trans (e6.mono (Nat.le_trans HBE2.out.size l6))) HL6.out.1)
 have HB4b:=Lib.hid (o8.blk (HB4.out.below e6 (by have:=HB4.out.lt;omega)) (by have:=HL6.out;omega))
 have H3:=Lib.hid (H0.out.below HBE3.out)
 clear B6 B8 o8 e6 z6 l6
 have c0:=H3.out.jour.cell (i:=0) rfl
 go_wp2_with fail
 refine(qM i.sb v.last.geo v.used _ H3.out.space HOK.out.sup.geo).mono ?_
 rintro e w' ⟨rfl,rfl⟩
 have q1:=HB6.out.cell (i:=1) rfl
 have g1:=HB6.out.free 1
 have q3:=HB6.out.cell (i:=3) rfl
 have g3:=HB6.out.free 3
 clear c0
 go_upto_region 5 with fail
 obtain⟨w9,hw9⟩:∃w9,(w8.setCell ⟨b6,1,none⟩ (.int .i64 v.used)).setCell ⟨b6,3,none⟩ (.int .i64 t)=w9:=⟨_,rfl⟩
 have HB6c:=Lib.hid (show ab w9 b6 (aE.cells ⟨gen+1,v.used,epoch,t,⟨blocks,lbas,first⟩⟩) 130 from by rw[←hw9];exact((HB6.out.set 1 _).set 3 _).ext rfl)
 have HB4c:=Lib.hid (show ab w9 b4 aE.zero.cells 130 from by rw[←hw9];exact(HB4b.out.set_other (by show b4≠b6;have:=HL6.out;omega) _).set_other (by show b4≠b6;have:=HL6.out;omega) _)
 have HBE9:=Lib.hid (show Below w.heap.size w w9 from by rw[←hw9];exact(HBE3.out.setCell (p:=⟨b6,1,none⟩) HL6.out.1 _).setCell (p:=⟨b6,3,none⟩) HL6.out.1 _)
 rw[hw9]
 clear hw9 q1 g1 q3 g3
 go_wp2_with (first
  |((with_reducible refine ar 130 (.tmp 6) b6 (aE.cells ⟨gen+1,v.used,epoch,t,⟨blocks,lbas,first⟩⟩) 130 _ HB6c.out Tryz.underlying130 rfl aY ?hgd ?ho ?hx ?_);(case hgd|ho|hx=>rfl))
  |((with_reducible refine af 130 (.tmp 4) (.tmp 28) b4 aE.zero.cells (aE.cells ⟨gen+1,v.used,epoch,t,⟨blocks,lbas,first⟩⟩) 130 HB4c.out rfl aY (dH _) ?hgd ?ho ?hx ?hy ?_);(case hgd|ho|hx|hy=>rfl);(intro w10 B10 o10))
  |fail)
 (try simp only[Exit.inBlock,Exit.then]);refine bodyPost_ret (bQ rfl _ _ B10.range rfl Tryz.underlying130 rfl aY) rfl ⟨rfl,o10.below HBE9.out HL4.out⟩
def fx (v:bk) (clock:Int):aE:=⟨v.last.gen+1,v.used+1,v.last.epoch+1,clock,v.last.geo⟩
def im (v:bk) (block kb q nb:ByteArray):ao:=
 ({(({(({v.d with cs:=v.d.cs++[(4+v.used,block)]++[(2+(v.last.epoch+1) % 2,kb)]}:ao).flushed)with cs:=[((v.last.gen+1) % 2,q)]}:ao).flushed)with cs:=[(2+v.last.epoch % 2,nb)]}:ao).flushed
theorem xg (i:aV) (v:bk) (block next:ByteArray) (clock:Int) (w:World) (h:bA w i v) (ok:iC v) (hb:block.size=4096) (hn:next.size=32) (hu:v.used<v.last.geo.blocks-4) (hc0:v.last.clock≤clock) (hc1:clock≤1099511627776) (hg:v.last.gen≠1152921504606846976) (he:v.last.epoch<4294967295):
  Calls Tryz.prog 147 #[.pointer (some ⟨i.jb,0,none⟩), .string block, .string next, .int .i64 clock] w fun e w'=>e= .returned (.tuple #[.int .i64 v.used, .int .i64 0])∧∃kb q nb,aj kb (eX (v.last.epoch+1) next.data.toList)∧aj q (eb (fx v clock))∧nb=(⟨(List.replicate 4096 0).toArray⟩:ByteArray)∧cC w w' i v i {v with used:=v.used+1,last:=fx v clock,d:=im v block kb q nb}:=by
 have hbi:(block.size:Int)=4096:=by omega
 have hni:(next.size:Int)=32:=by omega
 obtain⟨u,hu0⟩:∃u,v.used=u:=⟨_,rfl⟩
 obtain⟨ep,hep⟩:∃ep,v.last.epoch=ep:=⟨_,rfl⟩
 have he0:0≤ep:=by have:=ok.sup.e0;have:=ok.sup.geo.f0;omega
 obtain⟨m,hm⟩:∃m:Nat,ep+1=(m:Int):=⟨(ep+1).toNat,by omega⟩
 have HSUP:=Lib.hid (show fS (fx v clock)from by
  have g0:=ok.sup.g0
  have g1:=ok.sup.g1
  have c0:=ok.sup.c0
  have e0:=ok.sup.e0
  have u0:=ok.u0
  exact⟨ok.sup.geo,by show 1≤v.last.gen+1;omega,by show v.last.gen+1≤1152921504606846976;omega,by show 0≤v.used+1;omega,by show v.used+1≤v.last.geo.blocks-4;omega,by show v.last.geo.first≤v.last.epoch+1;omega,by show v.last.epoch+1<4294967296;omega,by show 0≤clock;omega,hc1⟩)
 have HNX:=Lib.hid (fun(wx:World)=>lK v.last wx ok.sup hg)
 have HJN:=Lib.hid (fun(wx:World) (v':bk) (hv:bA wx i v') (ho:iC v') (hl:v'.last=v.last)=>zp i v' clock wx hv ho (by rw[hl];exact hg))
 have HU:=Lib.hid hu0
 have HEPV:=Lib.hid hep
 have HM:=Lib.hid hm
 have HUB:=Lib.hid (show 0≤u∧u<v.last.geo.blocks-4 from⟨by rw[←hu0];exact ok.u0,by rw[←hu0];exact hu⟩)
 have HEP:=Lib.hid (show 0≤ep∧ep<4294967295 from⟨he0,by rw[←hep];exact he⟩)
 have hepi:¬(4294967295:Int)≤ep:=by omega
 have HOK:=Lib.hid ok
 have HB:=Lib.hid (And.intro hb hn)
 have HTM:=Lib.hid (And.intro hc0 hc1)
 have H0:=Lib.hid h
 rw[hu0,hep]
 clear hu hu0 ok hb hn hc0 hc1 hg he hep hm h he0
 have h:=H0.out
 go_enter Tryz.func147,Tryz.ntmps147
 go_wp2_with fail
 refine(wQ i v _ h).mono ?_
 rintro e w' ⟨rfl,rfl⟩
 go_wp2_with fail
 refine(zo i v clock _ h HTM.out.1 HTM.out.2).mono ?_
 rintro e w' ⟨rfl,rfl⟩
 have c4:w.cell? ⟨i.jb,4,none⟩=some (.int .i64 ep):=by rw[←HEPV.out];exact h.jour.cell (i:=4) rfl
 go_upto_region 7 with fail
 clear c4
 have HR:=Lib.hid (mc h.jour)
 go_wp2_with (first
  |((with_reducible refine ae 130 (.tmp 50) i.jb 2 v.last.cells _ (some 51) HR.out Tryz.underlying130 rfl aY ?hg ?ho ?hds ?hx ?_);(case ho|hg|hds|hx=>rfl))
  |fail)
 refine(HNX.out _).mono ?_
 rintro e wa ⟨rfl,hba⟩
 have HBa:=Lib.hid hba
 have Ha:=Lib.hid (h.below hba)
 clear hba h
 go_upto_region 8 with(first
  |((with_reducible refine ai 130 _ dT (some 12) ?hgd ?ho ?hd ?_);(case hgd|ho|hd=>rfl);(intro b12 w3 l12 B12 e12 z12))
  |((with_reducible refine af 130 (.tmp 12) (.tmp 53) b12 aE.zero.cells (({v.last with gen:=v.last.gen+1}:aE).cells) 130 B12 rfl aY (dH _) ?hgd ?ho ?hx ?hy ?_);(case hgd|ho|hx|hy=>rfl);(intro w8 B8 o8))
  |fail)
 have HBE8:=Lib.hid (o8.below (HBa.out.trans (e12.mono (Nat.le_trans HBa.out.size l12))) (Nat.le_trans HBa.out.size l12))
 have H8:=Lib.hid (H0.out.below HBE8.out)
 clear B12 B8 e12 o8 z12 l12
 have c0:=H8.out.jour.cell (i:=0) rfl
 go_wp2_with fail
 refine(pS i.sb v.last.geo u _ (by rw[←HU.out];exact H8.out.space) HOK.out.sup.geo HUB.out.1 HUB.out.2).mono ?_
 rintro e wb ⟨⟨rfl,hs1⟩,ht1⟩
 have HTb:=Lib.hid (cC.ahead HBE8.out (H8.out.take ht1 hs1))
 clear ht1 hs1 c0
 have hm:=HM.out
 have hwm:IntKind.i64.wrap (m:Int)=(m:Int):=IntWalk.i64_in _ (by have:=HEP.out;omega)
 go_wp2_with fail
 refine(jA m next _ (by have:=HEP.out.2;omega) HB.out.2).mono ?_
 rintro e wc ⟨kb,rfl,tk,hbc⟩
 have HTK:=Lib.hid tk
 have HTc:=Lib.hid (HTb.out.below hbc)
 clear tk hbc
 go_upto_region 14 with fail
 refine wp_region_held_drew (S:=fun wx=>wx.cell? ⟨i.jb,1,none⟩=some (.pointer (some ⟨i.db,0,none⟩))) (by kernel_rfl) (HTc.out.at'.jour.drew.cell (i:=1) rfl) (fun hHeld=> ?_)
 obtain⟨wd,hwd⟩:∃wd,wd=wc.drew:=⟨_,rfl⟩
 have HTwd:=Lib.hid (show cC w wd i v i {v with used:=u+1} from by rw[hwd];exact HTc.out.below (Below.refl _ _).drew)
 rw[←hwd]
 rw[←hwd]at hHeld
 clear hwd
 refine hp 0 ?_
 refine hp 1 ?_
 refine hp 2 ?_
 refine hp 3 ?_
 refine hp 5 ?_
 refine hp 7 ?_
 refine hp 8 ?_
 refine hp 9 ?_
 refine hp 11 ?_
 refine hp 13 ?_
 refine hp 14 ?_
 refine hp 15 ?_
 refine hp 16 ?_
 refine hp 17 ?_
 refine wpAnyH_ready (rs:=[4]) (by kernel_rfl) (by simp) ?_
 refine AllReadyH.cons rfl (fun K hK=> ?_) AllReadyH.nil
 go_simp
 refine(ma i.jb i.db _ v.last u _ HTwd.out.at'.jour HOK.out.sup.geo HUB.out.1 HUB.out.2).mono ?_
 rintro e we ⟨rfl,hbe⟩
 have HTwe:=Lib.hid (HTwd.out.below hbe)
 have HLT:=Lib.hid (fun x (hx:x∈v.d.foot i.db)=>Nat.lt_of_lt_of_le (HTwd.out.at'.disk.lt x hx) hbe.size)
 clear hbe
 (try go_wp2_with fail)
 refine hK.out _ _ (HTwe.out.at'.jour.cell (i:=1) rfl) (fun hHeld2=> ?_)
 clear hK K hHeld
 have hHeld:=hHeld2
 clear hHeld2
 (try go_frame)
 refine wpAnyH_ready (rs:=[6]) (by kernel_rfl) (by simp) ?_
 refine AllReadyH.cons rfl (fun K hK=> ?_) AllReadyH.nil
 go_simp
 refine(gI i.jb (4+u) block _).mono ?_
 rintro e wf ⟨⟨p3a,p4a,p5a,rfl,bS,g3,g4,g5⟩,hb3⟩
 have HTwf:=Lib.hid (HTwe.out.below hb3)
 have HSTa:=Lib.hid bS
 have HGa:=Lib.hid (And.intro g3 (And.intro g4 g5))
 have HZwf:=Lib.hid hb3.size
 clear hb3 bS g3 g4 g5
 (try go_wp2_with fail)
 refine hK.out _ _ (HTwf.out.at'.jour.cell (i:=1) rfl) (fun hHeld2=> ?_)
 clear hK K hHeld
 have hHeld:=hHeld2
 clear hHeld2
 (try go_frame)
 refine wpAnyH_ready (rs:=[10]) (by kernel_rfl) (by simp) ?_
 refine AllReadyH.cons rfl (fun K hK=> ?_) AllReadyH.nil
 go_simp
 refine(gh (m:Int) _ (by omega)).mono ?_
 rintro e w' ⟨rfl,rfl⟩
 (try go_wp2_with fail)
 refine hK.out _ _ (HTwf.out.at'.jour.cell (i:=1) rfl) (fun hHeld2=> ?_)
 clear hK K hHeld
 have hHeld:=hHeld2
 clear hHeld2
 (try go_frame)
 refine wpAnyH_ready (rs:=[12]) (by kernel_rfl) (by simp) ?_
 refine AllReadyH.cons rfl (fun K hK=> ?_) AllReadyH.nil
 go_simp
 refine(gI i.jb (2+(m:Int) % 2) kb _).mono ?_
 rintro e wg ⟨⟨p3b,p4b,p5b,rfl,bS,g3,g4,g5⟩,hb3⟩
 have HTwg:=Lib.hid (HTwf.out.below hb3)
 have HSTb:=Lib.hid bS
 have HGb:=Lib.hid (And.intro g3 (And.intro g4 g5))
 have HZwg:=Lib.hid hb3.size
 have HSTa2:=Lib.hid (HSTa.out.below hb3)
 clear hb3 bS g3 g4 g5
 (try go_wp2_with fail)
 refine hK.out _ _ (HTwg.out.at'.jour.cell (i:=1) rfl) (fun hHeld2=> ?_)
 clear hK K hHeld
 have hHeld:=hHeld2
 clear hHeld2
 (try go_frame)
 refine wpAnyH_ready (rs:=[18]) (by kernel_rfl) (by simp) ?_
 refine AllReadyH.cons rfl (fun K hK=> ?_) AllReadyH.nil
 go_simp
 obtain⟨wh,hwh⟩:∃wh,wh=wg.alloc (Obj.cells #[.func (.func 213) #[] #[.pointer (some ⟨p3a,0,none⟩), .pointer (some ⟨p4a,0,none⟩), .pointer (some ⟨p5a,0,none⟩)], .func (.func 213) #[] #[.pointer (some ⟨p3b,0,none⟩), .pointer (some ⟨p4b,0,none⟩), .pointer (some ⟨p5b,0,none⟩)], .func (.func 124) #[.pointer (some ⟨i.db,0,none⟩)] #[]] 148):=⟨_,rfl⟩
 rw[←hwh]
 have hbh:Below wg.heap.size wg wh:=by rw[hwh];exact(Below.refl _ _).alloc (Nat.le_refl _) _
 have HROW:=Lib.hid (show ab wh wg.heap.size [.func (.func 213) #[] #[.pointer (some ⟨p3a,0,none⟩), .pointer (some ⟨p4a,0,none⟩), .pointer (some ⟨p5a,0,none⟩)], .func (.func 213) #[] #[.pointer (some ⟨p3b,0,none⟩), .pointer (some ⟨p4b,0,none⟩), .pointer (some ⟨p5b,0,none⟩)], .func (.func 124) #[.pointer (some ⟨i.db,0,none⟩)] #[]] 148 from by rw[hwh];exact ab.new wg _ _)
 have HTwh:=Lib.hid (HTwg.out.below hbh)
 have HSTa3:=Lib.hid (HSTa2.out.below hbh)
 have HSTb3:=Lib.hid (HSTb.out.below hbh)
 clear hbh hwh
 (try go_wp2_with fail)
 refine hK.out _ _ (HTwh.out.at'.jour.cell (i:=1) rfl) (fun hHeld2=> ?_)
 clear hK K hHeld
 have hHeld:=hHeld2
 clear hHeld2
 (try go_frame)
 refine wpAnyH_ready (rs:=[19]) (by kernel_rfl) (by simp) ?_
 refine AllReadyH.cons rfl (fun K hK=> ?_) AllReadyH.nil
 go_simp
 refine(qQ i.jb i.db wg.heap.size 3 v.last.geo.blocks.toNat v.used.toNat p3a p4a p5a (4+u) block p3b p4b p5b (2+(m:Int) % 2) kb 148 v.d _ HTwh.out.at'.disk HROW.out (HTwh.out.at'.jour.cell (i:=1) rfl) HTwh.out.at'.jour.lt HSTa3.out HSTb3.out (by
  intro x hx hm
  have hlt:=HLT.out x hm
  have h1:=HGa.out
  have h2:=HGb.out
  have h3:=HZwf.out
  have h4:=HZwg.out
  rcases hx with rfl|rfl|rfl|rfl|rfl|rfl|rfl|rfl
  ·omega
  ·exact(HTwh.out.at'.jour.ty.notin HTwh.out.at'.disk.tyIn (by decide)) hm
  all_goals omega) HOK.out.calm (by have:=HOK.out.few;omega) HOK.out.blocks ⟨by have:=HUB.out.1;omega,by have:=HUB.out.2;omega⟩ HB.out.1 ⟨by omega,by have:=HOK.out.sup.geo.b0;omega⟩ (by rw[HTK.out.size];exact lC HB.out.2)).mono ?_
 rintro e w2 ⟨rfl,d2,hd2,ht2⟩
 have HD2:=Lib.hid hd2
 have HT2:=Lib.hid (HTwh.out.trans (HTwh.out.at'.disk_to ht2))
 clear ht2 hd2
 (try go_wp2_with fail)
 refine hK.out _ _ (HT2.out.at'.jour.cell (i:=1) rfl) (fun hHeld2=> ?_)
 clear hK K hHeld
 have hHeld:=hHeld2
 clear hHeld2
 (try go_frame)
 refine hp 20 ?_
 refine wpAnyH_done (by kernel_rfl) ?_ _
 clear hHeld
 have HC2:=Lib.hid (show Calm d2 v.last.geo.blocks.toNat 0 from by
  rw[HD2.out]
  have k1:=HOK.out.calm.put (i:=4+u) (by have:=HUB.out;omega) (by have:=HUB.out;omega) v.d.cv block
  have k2:=k1.put (i:=2+(m:Int) % 2) (by omega) (by have:=HOK.out.sup.geo.b0;omega) v.d.cv kb
  exact k2.flushed)
 have HO2:=Lib.hid (show iC {{v with used:=u+1} with d:=d2} from⟨HOK.out.sup,by show 0≤u+1;have:=HUB.out;omega,by show u+1≤v.last.geo.blocks-4;have:=HUB.out;omega,HC2.out.mono (Nat.zero_le _)⟩)
 go_wp2_with fail
 refine(HJN.out _ _ HT2.out.at' HO2.out rfl).mono ?_
 rintro e w3 ⟨rfl,hb3⟩
 have HT3:=Lib.hid (HT2.out.below hb3)
 have HW3:=Lib.hid (show w.heap.size≤w3.heap.size from HT3.out.turned.size)
 have HF3:=Lib.hid (fun x (hx:x∈d2.foot i.db)=>HT3.out.at'.disk.lt x hx)
 have HJ3:=Lib.hid HT3.out.at'.jour.lt
 clear hb3
 go_upto_region 18 with(first
  |((with_reducible refine ai 130 _ dT (some 19) ?hgd ?ho ?hd ?_);(case hgd|ho|hd=>rfl);(intro b19 wq l19 B19 e19 z19))
  |((with_reducible refine af 130 (.tmp 19) (.tmp 106) b19 aE.zero.cells ((⟨v.last.gen+1,u+1,v.last.epoch,clock,v.last.geo⟩:aE).cells) 130 B19 rfl aY (dH _) ?hgd ?ho ?hx ?hy ?_);(case hgd|ho|hx|hy=>rfl);(intro wr Br or))
  |fail)
 obtain⟨S2,hS2⟩:∃S2,S2=(⟨v.last.gen+1,u+1,(m:Int),clock,v.last.geo⟩:aE):=⟨_,rfl⟩
 have HS2:=Lib.hid (show S2=fx v clock from by rw[hS2];unfold fx;rw[HU.out,HEPV.out,HM.out])
 have HSE:=Lib.hid hS2
 clear hS2
 have HBq:=Lib.hid Br
 have HBEr:=Lib.hid (show Below w3.heap.size w3 wr from or.below (e19.mono l19) l19)
 have HLr:=Lib.hid (show w3.heap.size≤b19 from l19)
 clear B19 Br e19 or z19 l19
 have c2:wr.cell? ⟨b19,2,none⟩=some (.int .i64 v.last.epoch):=HBq.out.cell (i:=2) rfl
 have f2:=HBq.out.free 2
 go_upto_region 19 with fail
 obtain⟨w4,hw4⟩:∃w4,wr.setCell ⟨b19,2,none⟩ (.int .i64 (m:Int))=w4:=⟨_,rfl⟩
 have HB4:=Lib.hid (show ab w4 b19 S2.cells 130 from by rw[←hw4,HSE.out];exact(HBq.out.set 2 _).ext rfl)
 have HT4:=Lib.hid (show cC w w4 i v i {{v with used:=u+1} with d:=d2} from by rw[←hw4];exact HT3.out.below (HBEr.out.setCell (p:=⟨b19,2,none⟩) HLr.out _))
 rw[hw4]
 clear hw4 c2 f2
 go_wp2_with (first
  |((with_reducible refine ar 130 (.tmp 19) b19 S2.cells 130 _ HB4.out Tryz.underlying130 rfl aY ?hgd ?ho ?hx ?_);(case hgd|ho|hx=>rfl))
  |fail)
 refine(mZ i.jb i.db (.pointer (some ⟨i.sb,0,none⟩)) d2 v.last S2 _ HT4.out.at'.disk HT4.out.at'.jour (HT4.out.at'.jour.ty.notin HT4.out.at'.disk.tyIn (by decide)) (by rw[HS2.out];exact HSUP.out) HC2.out.up HC2.out.left (by have:=HC2.out.few;omega) (by rw[HC2.out.len];exact HOK.out.blocks) (by rw[HC2.out.len];have:=HOK.out.sup.geo.b0;omega) HC2.out.hin).mono ?_
 rintro e w5 ⟨rfl,d3,q,hd3,tq,hda,hjb,ht5,hf5⟩
 have HD3:=Lib.hid hd3
 have HTQ:=Lib.hid tq
 have HC3:=Lib.hid (show Calm d3 v.last.geo.blocks.toNat 0 from by
  rw[hd3]
  have hcs:d2.cs=[]:=List.eq_nil_of_length_eq_zero (by have:=HC2.out.few;omega)
  have k1:=HC2.out.put (i:=S2.gen % 2) (by omega) (by have:=HOK.out.sup.geo.b0;omega) d2.cv q
  exact k1.flushed)
 have HT5:=Lib.hid (HT4.out.trans (HT4.out.at'.jdisk ht5 (by show S2.geo=v.last.geo;rw[HSE.out]) hda hjb hf5))
 clear hd3 tq hda hjb ht5 hf5
 go_upto_region 22 with fail
 refine wp_region_held_drew (S:=fun wx=>wx.cell? ⟨i.jb,1,none⟩=some (.pointer (some ⟨i.db,0,none⟩))) (by kernel_rfl) (HT5.out.at'.jour.drew.cell (i:=1) rfl) (fun hHeld=> ?_)
 obtain⟨wd,hwd⟩:∃wd,wd=w5.drew:=⟨_,rfl⟩
 have HTx:=Lib.hid (show cC w wd i v i {{{v with used:=u+1} with d:=d2} with d:=d3,last:=S2} from by rw[hwd];exact HT5.out.below (Below.refl _ _).drew)
 rw[←hwd]
 rw[←hwd]at hHeld
 clear hwd
 refine hp 0 ?_
 refine hp 1 ?_
 refine hp 2 ?_
 refine hp 6 ?_
 refine hp 7 ?_
 refine hp 8 ?_
 refine hp 9 ?_
 refine hp 10 ?_
 refine wpAnyH_ready (rs:=[3]) (by kernel_rfl) (by simp) ?_
 refine AllReadyH.cons rfl (fun K hK=> ?_) AllReadyH.nil
 go_simp
 refine(gh ep _ HEP.out.1).mono ?_
 rintro e w' ⟨rfl,rfl⟩
 (try go_wp2_with fail)
 refine hK.out _ _ (HTx.out.at'.jour.cell (i:=1) rfl) (fun hHeld2=> ?_)
 clear hK K hHeld
 have hHeld:=hHeld2
 clear hHeld2
 (try go_frame)
 refine wpAnyH_ready (rs:=[4]) (by kernel_rfl) (by simp) ?_
 refine AllReadyH.cons rfl (fun K hK=> ?_) AllReadyH.nil
 go_simp
 refine(iz _).mono ?_
 rintro e we ⟨rfl,hbe⟩
 obtain⟨nb,hnb⟩:∃nb,nb=(⟨(List.replicate 4096 0).toArray⟩:ByteArray):=⟨_,rfl⟩
 rw[←hnb]
 have HNB:=Lib.hid hnb
 have HTy:=Lib.hid (HTx.out.below hbe)
 have HLT2:=Lib.hid (fun x (hx:x∈d3.foot i.db)=>HTy.out.at'.disk.lt x hx)
 clear hbe hnb
 (try go_wp2_with fail)
 refine hK.out _ _ (HTy.out.at'.jour.cell (i:=1) rfl) (fun hHeld2=> ?_)
 clear hK K hHeld
 have hHeld:=hHeld2
 clear hHeld2
 (try go_frame)
 refine wpAnyH_ready (rs:=[5]) (by kernel_rfl) (by simp) ?_
 refine AllReadyH.cons rfl (fun K hK=> ?_) AllReadyH.nil
 go_simp
 refine(gI i.jb (2+ep % 2) nb _).mono ?_
 rintro e wf2 ⟨⟨p3c,p4c,p5c,rfl,bS,g3,g4,g5⟩,hb3⟩
 have HTwf2:=Lib.hid (HTy.out.below hb3)
 have HSTc:=Lib.hid bS
 have HGc:=Lib.hid (And.intro g3 (And.intro g4 g5))
 have HZwf2:=Lib.hid hb3.size
 clear hb3 bS g3 g4 g5
 (try go_wp2_with fail)
 refine hK.out _ _ (HTwf2.out.at'.jour.cell (i:=1) rfl) (fun hHeld2=> ?_)
 clear hK K hHeld
 have hHeld:=hHeld2
 clear hHeld2
 (try go_frame)
 refine wpAnyH_ready (rs:=[11]) (by kernel_rfl) (by simp) ?_
 refine AllReadyH.cons rfl (fun K hK=> ?_) AllReadyH.nil
 go_simp
 obtain⟨wh,hwh⟩:∃wh,wh=wf2.alloc (Obj.cells #[.func (.func 213) #[] #[.pointer (some ⟨p3c,0,none⟩), .pointer (some ⟨p4c,0,none⟩), .pointer (some ⟨p5c,0,none⟩)], .func (.func 124) #[.pointer (some ⟨i.db,0,none⟩)] #[]] 148):=⟨_,rfl⟩
 rw[←hwh]
 have hbh:Below wf2.heap.size wf2 wh:=by rw[hwh];exact(Below.refl _ _).alloc (Nat.le_refl _) _
 have HROW2:=Lib.hid (show ab wh wf2.heap.size [.func (.func 213) #[] #[.pointer (some ⟨p3c,0,none⟩), .pointer (some ⟨p4c,0,none⟩), .pointer (some ⟨p5c,0,none⟩)], .func (.func 124) #[.pointer (some ⟨i.db,0,none⟩)] #[]] 148 from by rw[hwh];exact ab.new wf2 _ _)
 have HTz:=Lib.hid (HTwf2.out.below hbh)
 have HSTc2:=Lib.hid (HSTc.out.below hbh)
 clear hbh hwh
 (try go_wp2_with fail)
 refine hK.out _ _ (HTz.out.at'.jour.cell (i:=1) rfl) (fun hHeld2=> ?_)
 clear hK K hHeld
 have hHeld:=hHeld2
 clear hHeld2
 (try go_frame)
 refine wpAnyH_ready (rs:=[12]) (by kernel_rfl) (by simp) ?_
 refine AllReadyH.cons rfl (fun K hK=> ?_) AllReadyH.nil
 go_simp
 refine(sC i.jb i.db wf2.heap.size 2 v.last.geo.blocks.toNat 0 p3c p4c p5c (2+ep % 2) nb 148 d3 _ HTz.out.at'.disk HROW2.out (HTz.out.at'.jour.cell (i:=1) rfl) HTz.out.at'.jour.lt HSTc2.out (by
  intro x hx hm
  have hlt:=HLT2.out x hm
  have h1:=HGc.out
  have h3:=HZwf2.out
  rcases hx with rfl|rfl|rfl|rfl|rfl
  ·omega
  ·exact(HTz.out.at'.jour.ty.notin HTz.out.at'.disk.tyIn (by decide)) hm
  all_goals omega) HC3.out (by decide) HOK.out.blocks ⟨by have:=HEP.out.1;omega,by have:=HOK.out.sup.geo.b0;omega⟩ (by rw[HNB.out];simp[ByteArray.size])).mono ?_
 rintro e w6 ⟨rfl,d4,hd4,ht4⟩
 have HD4:=Lib.hid hd4
 have HT6:=Lib.hid (HTz.out.trans (HTz.out.at'.disk_to ht4))
 clear ht4 hd4
 (try go_wp2_with fail)
 refine hK.out _ _ (HT6.out.at'.jour.cell (i:=1) rfl) (fun hHeld2=> ?_)
 clear hK K hHeld
 have hHeld:=hHeld2
 clear hHeld2
 (try go_frame)
 refine hp 13 ?_
 refine wpAnyH_done (by kernel_rfl) ?_ _
 clear hHeld
 go_wp2_with fail
 go_ret2
 have hdd:d4=im v block kb q nb:=by
  have hg:S2.gen=v.last.gen+1:=by rw[HSE.out]
  rw[HD4.out,HD3.out,hg,HD2.out]
  unfold im
  rw[HU.out,HEPV.out,HM.out]
  rfl
 have hT:=HT6.out
 rw[hdd,HS2.out]at hT
 refine⟨rfl,kb,q,nb, ?_, ?_,HNB.out,hT⟩
 ·rw[HM.out];exact HTK.out
 ·rw[←HS2.out];exact HTQ.out
theorem pn {w:World} {k:TypeId} {R:Value→Option (DataW Unit×List MemPlace)} {b n:Nat} {D:DataW Unit} {t:TypeId} (h:w.ownsMap Tryz.prog k R b n D) (ht:Ty w b t):False:=by
 obtain⟨_,_,h2⟩:=ht
 obtain⟨es,clock,h1,_⟩:=h
 rw[h1]at h2
 cases h2
theorem bA.notype {w:World} {i:aV} {v:bk} {b:Nat} {t:TypeId} (h:bA w i v) (hb:Ty w b t) (ht:t∉[50,216,320,314,167,302,138,9,365,181,27]):b∉i.foot v.d:=by
 intro hx
 simp only[List.mem_cons,List.not_mem_nil,or_false,not_or]at ht
 obtain⟨t1,t2,t3,t4,t5,t6,t7,t8,t9,t10,t11⟩:=ht
 simp only[aV.foot,List.mem_append,List.mem_cons,List.not_mem_nil,or_false,Option.mem_toList,Option.mem_def]at hx
 rcases hx with(rfl|rfl|rfl|rfl|rfl|rfl|rfl|rfl|rfl|rfl)|hx|hx|hx
 ·exact t1 (hb.eq h.vol.ty)
 ·exact t2 (hb.eq h.jour.ty)
 ·exact t3 (hb.eq h.space.ty)
 ·exact t4 (hb.eq h.index.ty)
 ·exact t5 (hb.eq h.book.ty)
 ·exact t6 (hb.eq h.bclock.ty)
 ·exact t6 (hb.eq h.clock.ty)
 ·exact pn h.maps.u hb
 ·exact pn h.maps.l hb
 ·exact pn h.maps.g hb
 ·obtain⟨t',hm,ht'⟩:=h.disk.tyIn b hx
  have he:=hb.eq ht'
  subst he
  simp only[List.mem_cons,List.not_mem_nil,or_false]at hm
  rcases hm with hm|hm|hm
  ·exact t7 hm
  ·exact t8 hm
  ·exact t9 hm
 ·exact t10 (hb.eq (ap h.vers hx))
 ·exact t11 (hb.eq (ap h.sealed hx))
theorem bA.away {w w':World} {i:aV} {v:bk} {S:List Nat} (h:bA w i v) (t:aa S w w') (hS:∀x,x∈i.foot v.d→x∉S):bA w' i v:=by
 have hm:∀x,x∈[i.vb,i.jb,i.sb,i.xb,i.bb,i.c2,i.cb,i.m1,i.m2,i.m3]→x∉S:=fun x hx=>hS x (by unfold aV.foot;exact List.mem_append_left _ hx)
 exact⟨t.blk h.vol (hm _ (by simp)),t.blk h.jour (hm _ (by simp)),t.blk h.space (hm _ (by simp)),h.disk.turned t (fun x hx=>hS x (by unfold aV.foot;exact List.mem_append_right _ (List.mem_append_left _ hx))),t.blk h.index (hm _ (by simp)),
  ak h.vers t (fun k hk=>hS k (by simp only[aV.foot,List.mem_append,Option.mem_toList,Option.mem_def];exact .inr (.inr (.inl hk)))),ak h.sealed t (fun k hk=>hS k (by simp only[aV.foot,List.mem_append,Option.mem_toList,Option.mem_def];exact .inr (.inr (.inr hk)))),
  t.blk h.book (hm _ (by simp)),t.blk h.bclock (hm _ (by simp)),t.blk h.clock (hm _ (by simp)),h.maps.turned t (by rintro x (rfl|rfl|rfl)<;>exact hm _ (by simp)),h.two,h.rp⟩
theorem cC.away {w w1 w2:World} {i i':aV} {v v':bk} {b:Nat} (h:cC w w1 i v i' v') (t:aa [b] w1 w2) (hb:b∉i'.foot v'.d) (hw:w.heap.size≤b):cC w w2 i v i' v':=
 ⟨h.at'.away t (fun x hx hm=>hb (by simp at hm;subst hm;exact hx)),h.turned.on t (fun x hx=>by simp at hx;subst hx;exact .inr hw),h.foot⟩
end Go.Proofs.YtgimkmclgjfddaaGreat
