/- What a volume answers an audit: the tellers (chapter 29). -/
import Derived.Test.YtngiibgdgenidaaGreatQ27
import Derived.Test.YtngiibgdgenidaaGreatQ9
import Derived.Test.YtngiibgdgenidaaGreatQ24
import Derived.Test.YtngiibgdgenidaaGreatQ25
import Derived.Test.YtngiibgdgenidaaGreatQ16
import Derived.Deep.RegionWith
import Derived.Laws.EntriesVeiled
set_option linter.unusedSimpArgs false
set_option linter.unusedVariables false
set_option maxRecDepth 100000
set_option maxHeartbeats 4000000
namespace Go.Proofs.YtngiibgdgenidaaGreat
open Go Go.RowKit Go.Maps Go.WideMaps
structure iT (a b:aa):Prop where
 eq:a=b
theorem cZ (w:World):(zeroValue 73).run Tryz.prog w= .ok (.agg (aa.cells aa.zero (.slice none 0 0) (.slice none 0 0)).toArray) w:=by kernel_rfl
theorem cC {a b c:Value}:(Tryz.prog.info? 207).map (·.size)=some ([a,b,c]:List Value).length:=by kernel_rfl
theorem dL (m:aa):∀x∈m.cells (.slice none 0 0) (.slice none 0 0),x.oneCell'=true:=cr bR bR
theorem zW (vb:Nat) (ep:Int) (key:ByteArray) (m A:aa) (hA:iT A ({aa.zero with kind:=2,epoch:=ep,nonce:=m.nonce}:aa)) (p1 p2:Option Addr) (c1 c2:Nat) (w:World):
  Calls Tryz.prog 130 #[.agg ([.pointer (some ⟨vb,0,none⟩), .int .i64 ep, .string key]:List Value).toArray,m.v (.slice p1 0 c1) (.slice p2 0 c2)] w fun e w'=>e= .returned (.tuple #[A.v (.slice none 0 0) (.slice none 0 0), .bool true])∧Below w.heap.size w w':=by
 go_enter Tryz.func130,Tryz.ntmps130
 go_upto_region 1 with(first
  |((with_reducible refine ai 207 (.tmp 0) [.pointer (some ⟨vb,0,none⟩), .int .i64 ep, .string key] (some 2) ?hgd ?ho ?hd ?hx ?_);(case hgd|ho|hd|hx=>rfl);(intro b2 w1 l1 B1 e1 z1))
  |((with_reducible refine ai 73 (.tmp 1) (m.cells (.slice p1 0 c1) (.slice p2 0 c2)) (some 3) ?hgd ?ho ?hd ?hx ?_);(case hgd|ho|hd|hx=>rfl);(intro b3 w2 l2 B2 e2 z2))
  |((with_reducible refine af 73 _ cZ (some 4) ?hgd ?ho ?hd ?_);(case hgd|ho|hd=>rfl);(intro b4 w3 l3 B3 e3 z3))
  |fail)
 have L2:w.heap.size≤b3:=Nat.le_trans l1 (Nat.le_trans (Nat.le_of_lt z1) l2)
 have L3:w.heap.size≤b4:=Nat.le_trans L2 (Nat.le_trans (Nat.le_of_lt z2) l3)
 have HX2:=Lib.hid ((B1.below e2 (Nat.lt_of_lt_of_le z1 l2)).below e3 (Nat.lt_of_lt_of_le z1 (Nat.le_trans l2 (Nat.le_trans (Nat.le_of_lt z2) l3))))
 have HX3:=Lib.hid (B2.below e3 (Nat.lt_of_lt_of_le z2 l3))
 have HX4:=Lib.hid B3
 have HB3:=Lib.hid (show Below w.heap.size w w3 from((e1.mono l1).trans (e2.mono L2)).trans (e3.mono L3))
 have HL4:=Lib.hid L3
 have HN34:=Lib.hid (show b3≠b4 by have:=z2;have:=l3;omega)
 clear L2 L3 B1 B2 B3 e1 e2 e3 z1 z2 z3 l1 l2 l3
 have x3:=HX3.out.cell (i:=3) rfl
 have x1:=HX2.out.cell (i:=1) rfl
 go_wp2_with (first
  |((with_reducible refine ae 73 (.tmp 4) (.tmp 10) b4 (aa.cells aa.zero (.slice none 0 0) (.slice none 0 0)) (A.cells (.slice none 0 0) (.slice none 0 0)) 73 HX4.out rfl ap (dL _) ?hgd ?ho ?hx ?hy ?_);(case hgd|ho|hx=>rfl);(case hy=>first|rfl|(rw[hA.eq];rfl));(intro w4 B4 o4))
  |fail)
 (try simp only[Exit.inBlock,Exit.then]);refine bodyPost_ret (aL rfl _ _ B4.range rfl Tryz.underlying73 rfl ap) rfl ⟨rfl,o4.below HB3.out HL4.out⟩
theorem tj (i:aR) (v:bf) (ep:Int) (key:ByteArray) (m A:aa) (hA:iT A ({aa.zero with kind:=8,nonce:=m.nonce}:aa)) (px:Option Addr) (cx:Nat) (p1 p2:Option Addr) (c1 c2:Nat) (w:World) (h:aP w i v) (hx:i.xv= .slice px 0 cx) (hv:v.vers=[]) (h0:v.last.geo.first≤0) (h1:0<v.last.geo.lbas) (he:0<v.epoch) (hg:v.G.atKey (.int .i64 0) (.lit (.bool false))= .lit (.bool false)) (ha:m.askE=0) (hb:m.askL=0):
  Calls Tryz.prog 133 #[.agg ([.pointer (some ⟨i.vb,0,none⟩), .int .i64 ep, .string key]:List Value).toArray,m.v (.slice p1 0 c1) (.slice p2 0 c2)] w fun e w'=>e= .returned (.tuple #[A.v (.slice none 0 0) (.slice none 0 0), .bool true])∧Below w.heap.size w w':=by
 have HV:=Lib.hid h
 have HT:=Lib.hid (fun(wx:World) (hx':aP wx i v)=>xF i v px cx wx hx' hx hv h0 h1 he hg)
 have HAE:=Lib.hid ha
 have HAL:=Lib.hid hb
 clear h hx hv hg ha hb
 go_enter Tryz.func133,Tryz.ntmps133
 go_upto_region 1 with(first
  |((with_reducible refine ai 207 (.tmp 0) [.pointer (some ⟨i.vb,0,none⟩), .int .i64 ep, .string key] (some 2) ?hgd ?ho ?hd ?hx ?_);(case hgd|ho|hd|hx=>rfl);(intro b2 w1 l1 B1 e1 z1))
  |((with_reducible refine ai 73 (.tmp 1) (m.cells (.slice p1 0 c1) (.slice p2 0 c2)) (some 3) ?hgd ?ho ?hd ?hx ?_);(case hgd|ho|hd|hx=>rfl);(intro b3 w2 l2 B2 e2 z2))
  |((with_reducible refine af 73 _ cZ (some 4) ?hgd ?ho ?hd ?_);(case hgd|ho|hd=>rfl);(intro b4 w3 l3 B3 e3 z3))
  |fail)
 have L2:w.heap.size≤b3:=Nat.le_trans l1 (Nat.le_trans (Nat.le_of_lt z1) l2)
 have L3:w.heap.size≤b4:=Nat.le_trans L2 (Nat.le_trans (Nat.le_of_lt z2) l3)
 have HX2:=Lib.hid ((B1.below e2 (Nat.lt_of_lt_of_le z1 l2)).below e3 (Nat.lt_of_lt_of_le z1 (Nat.le_trans l2 (Nat.le_trans (Nat.le_of_lt z2) l3))))
 have HX3:=Lib.hid (B2.below e3 (Nat.lt_of_lt_of_le z2 l3))
 have HX4:=Lib.hid B3
 have HB3:=Lib.hid (show Below w.heap.size w w3 from((e1.mono l1).trans (e2.mono L2)).trans (e3.mono L3))
 have HL4:=Lib.hid L3
 have HN34:=Lib.hid (show b3≠b4 by have:=z2;have:=l3;omega)
 clear L2 L3 B1 B2 B3 e1 e2 e3 z1 z2 z3 l1 l2 l3
 have HV3:=Lib.hid (HV.out.below HB3.out)
 have x0:=HX2.out.cell (i:=0) rfl
 have x6:w3.cell? ⟨b3,6,none⟩=some (.int .i64 0):=by rw[←HAE.out];exact HX3.out.cell (i:=6) rfl
 have x7:w3.cell? ⟨b3,7,none⟩=some (.int .i64 0):=by rw[←HAL.out];exact HX3.out.cell (i:=7) rfl
 go_wp2_with fail
 refine(HT.out _ HV3.out).mono ?_
 rintro e w5 ⟨rfl,hb5⟩
 have HX25:=Lib.hid (HX2.out.below hb5 HX2.out.lt)
 have HX35:=Lib.hid (HX3.out.below hb5 HX3.out.lt)
 have HX45:=Lib.hid (HX4.out.below hb5 HX4.out.lt)
 have HB5:=Lib.hid (HB3.out.trans (hb5.mono HB3.out.size))
 clear hb5 x0 x6 x7
 have x3:=HX35.out.cell (i:=3) rfl
 go_upto_region 4 with(first
  |((with_reducible refine af 69 _ kV (some 6) ?hgd ?ho ?hd ?_);(case hgd|ho|hd=>rfl);(intro b6 w6 l6 B6 e6 z6))
  |((with_reducible refine ae 69 (.tmp 6) (.tmp 14) b6 bV bV 69 B6 rfl eY mB ?hgd ?ho ?hx ?hy ?_);(case hgd|ho|hx|hy=>rfl);(intro w7 B7 o7;have hb7:=o7.below (e6.mono l6) l6;have HX47:=Lib.hid (HX45.out.below hb7 HX45.out.lt);have HB7:=Lib.hid (HB5.out.trans (hb7.mono HB5.out.size));have x3:=(HX35.out.below hb7 HX35.out.lt).cell (i:=3) rfl;have HX6:=Lib.hid B7;clear B6 l6 e6 z6 B7 o7 hb7))
  |fail)
 trace_state
 go_wp2_with (first
  |((with_reducible refine ag 69 (.tmp 6) b6 0 (bV) _ (some 21) (HX6.out.range) Tryz.underlying69 rfl eY ?hg ?ho ?hds ?hx ?_);(case ho|hg|hds|hx=>rfl))
  |((with_reducible refine ao 73 ?parts (A.cells (.slice none 0 0) (.slice none 0 0)) ?hg ?ho ?hf ?_);(case hg|ho=>rfl);(case hf=>rw[hA.eq];kernel_rfl))
  |((with_reducible refine ae 73 (.tmp 4) (.tmp 22) b4 (aa.cells aa.zero (.slice none 0 0) (.slice none 0 0)) (A.cells (.slice none 0 0) (.slice none 0 0)) 73 HX47.out rfl ap (dL _) ?hgd ?ho ?hx ?hy ?_);(case hgd|ho|hx=>rfl);(case hy=>first|rfl|(rw[hA.eq];rfl));(intro w9 B9 o9))
  |fail)
 (try simp only[Exit.inBlock,Exit.then]);refine bodyPost_ret (aL rfl _ _ B9.range rfl Tryz.underlying73 rfl ap) rfl ⟨rfl,o9.below HB7.out HL4.out⟩
theorem kY {x:ax}:(Tryz.prog.info? 61).map (·.size)=some x.cells.length:=by kernel_rfl
theorem bH.range {b g o:Nat} {w w':World} {cs:List Value} (h:bH b w w') (hr:w.rangeAt g o cs) (hg:g≠b):w'.rangeAt g o cs:=by
 intro j u hu
 rw[show w'.cell? ⟨g,o+j,none⟩=w.cell? ⟨g,o+j,none⟩from by simp only[World.cell?,h.block g hg]]
 exact hr j u hu
theorem xG (i:aR) (v:bf) (ep:Int) (key:ByteArray) (k:Nat) (x:ax) (m A:aa) (hA:iT A ({aa.zero with kind:=6,nonce:=m.nonce,seq:=(k:Int),sld:=x}:aa)) (p1 p2:Option Addr) (c1 c2:Nat) (w:World) (h:aP w i v) (hn:v.sealed.length≤4096) (hx:v.sealed[k]?=some x) (hs:m.seq=(k:Int)):
  Calls Tryz.prog 132 #[.agg ([.pointer (some ⟨i.vb,0,none⟩), .int .i64 ep, .string key]:List Value).toArray,m.v (.slice p1 0 c1) (.slice p2 0 c2)] w fun e w'=>e= .returned (.tuple #[A.v (.slice none 0 0) (.slice none 0 0), .bool true])∧Below w.heap.size w w':=by
 have HV:=Lib.hid h
 have HXX:=Lib.hid hx
 have HKS:=Lib.hid hs.symm
 have hkn:k<v.sealed.length:=(List.getElem?_eq_some_iff.1 hx).1
 have hk1:(k:Int)<(v.sealed.length:Int):=by omega
 have hk2:¬(v.sealed.length:Int)≤(k:Int):=by omega
 clear h hx
 go_enter Tryz.func132,Tryz.ntmps132
 go_upto_region 1 with(first
  |((with_reducible refine ai 207 (.tmp 0) [.pointer (some ⟨i.vb,0,none⟩), .int .i64 ep, .string key] (some 2) ?hgd ?ho ?hd ?hx ?_);(case hgd|ho|hd|hx=>rfl);(intro b2 w1 l1 B1 e1 z1))
  |((with_reducible refine ai 73 (.tmp 1) (m.cells (.slice p1 0 c1) (.slice p2 0 c2)) (some 3) ?hgd ?ho ?hd ?hx ?_);(case hgd|ho|hd|hx=>rfl);(intro b3 w2 l2 B2 e2 z2))
  |((with_reducible refine af 73 _ cZ (some 4) ?hgd ?ho ?hd ?_);(case hgd|ho|hd=>rfl);(intro b4 w3 l3 B3 e3 z3))
  |fail)
 have L2:w.heap.size≤b3:=Nat.le_trans l1 (Nat.le_trans (Nat.le_of_lt z1) l2)
 have L3:w.heap.size≤b4:=Nat.le_trans L2 (Nat.le_trans (Nat.le_of_lt z2) l3)
 have HX2:=Lib.hid ((B1.below e2 (Nat.lt_of_lt_of_le z1 l2)).below e3 (Nat.lt_of_lt_of_le z1 (Nat.le_trans l2 (Nat.le_trans (Nat.le_of_lt z2) l3))))
 have HX3:=Lib.hid (B2.below e3 (Nat.lt_of_lt_of_le z2 l3))
 have HX4:=Lib.hid B3
 have HB3:=Lib.hid (show Below w.heap.size w w3 from((e1.mono l1).trans (e2.mono L2)).trans (e3.mono L3))
 have HL4:=Lib.hid L3
 have HN34:=Lib.hid (show b3≠b4 by have:=z2;have:=l3;omega)
 clear L2 L3 B1 B2 B3 e1 e2 e3 z1 z2 z3 l1 l2 l3
 have HV3:=Lib.hid (HV.out.below HB3.out)
 have x0:=HX2.out.cell (i:=0) rfl
 go_wp2_with fail
 refine(nq i v _ HV3.out hn).mono ?_
 rintro e w5 ⟨⟨v',rfl,hv'⟩,hb5⟩
 obtain⟨g,cap,rfl,hg,hr⟩:=Eo (c:=ax.cells) (fun _=>rfl) hv' HXX.out (by omega)
 have HR5:=Lib.hid hr
 have HX35:=Lib.hid (HX3.out.below hb5 HX3.out.lt)
 have HX45:=Lib.hid (HX4.out.below hb5 HX4.out.lt)
 have HB5:=Lib.hid (HB3.out.trans (hb5.mono HB3.out.size))
 have HNG:=Lib.hid (show g≠b4 by have:=(hv'.lt g rfl).1;have:=HX4.out.lt;omega)
 clear hb5 x0 hv' hr hg
 have y2:w5.cell? ⟨b3,2,none⟩=some (.int .i64 (k:Int)):=by rw[HKS.out];exact HX35.out.cell (i:=2) rfl
 go_upto_region 4 with fail
 clear y2
 refine hb (fun w'=>w'.cell? ⟨b3,3,none⟩=some (.string m.nonce)∧w'.cell? ⟨b3,2,none⟩=some (.int .i64 (k:Int))∧w'.rangeAt g (k*9) x.cells) (⟨HX35.out.drew.cell (i:=3) rfl,(by rw[HKS.out];exact HX35.out.drew.cell (i:=2) rfl),fun j u hu=>by simpa using HR5.out j u hu⟩) fun hHeld=> ?_
 obtain⟨wd,hwd⟩:∃wd,wd=w5.drew:=⟨_,rfl⟩
 have hbd:Below w5.heap.size w5 wd:=by rw[hwd];exact(Below.refl _ _).drew
 have HX4d:=Lib.hid (HX45.out.below hbd HX45.out.lt)
 have HX3d:=Lib.hid (HX35.out.below hbd HX35.out.lt)
 have HBd:=Lib.hid (HB5.out.trans (hbd.mono HB5.out.size))
 have HNd:=Lib.hid (show b3≠b4 from HN34.out)
 have HRd:=Lib.hid (show wd.rangeAt g (k*9) x.cells from fun j u hu=>by rw[hwd];simpa using HR5.out j u hu)
 have HGd:=Lib.hid (show g≠b4 from HNG.out)
 rw[←hwd]
 rw[←hwd]at hHeld
 clear hwd hbd
 refine hp 0 ?_
 refine hp 1 ?_
 refine hp 2 ?_
 refine hp 3 ?_
 refine hp 4 ?_
 refine hp 5 ?_
 refine hp 6 ?_
 refine hp 7 ?_
 refine hl 8 61 g (k*9) (x.cells) (fun w h=>h.2.2) Tryz.underlying61 kY ?_
 refine hu 9 73 (A.cells (.slice none 0 0) (.slice none 0 0)) (by rw[hA.eq];kernel_rfl) ?_
 refine hc 10 fun K hK=> ?_
 refine fG 73 (.tmp 4) (.tmp 25) b4 (aa.cells aa.zero (.slice none 0 0) (.slice none 0 0)) (A.cells (.slice none 0 0) (.slice none 0 0)) 73 HX4d.out rfl ap (dL _) rfl rfl rfl ?_
 intro w9 B9 o9
 have HX49:=Lib.hid B9
 have HX39:=Lib.hid (o9.blk HX3d.out HNd.out)
 have HR9:=Lib.hid (o9.range HRd.out HGd.out)
 have HB9:=Lib.hid (o9.below HBd.out HL4.out)
 clear B9 o9
 (try go_wp2_with fail)
 refine hK.out _ _ (⟨HX39.out.cell (i:=3) rfl,(by rw[HKS.out];exact HX39.out.cell (i:=2) rfl),HR9.out⟩) fun _=> ?_
 clear hK K hHeld
 rename_i hHeld
 (try go_frame)
 refine hp 11 ?_
 refine hd ?_
 clear hHeld
 go_wp2_with fail
 (try simp only[Exit.inBlock,Exit.then]);refine bodyPost_ret (aL rfl _ _ HX49.out.range rfl Tryz.underlying73 rfl ap) rfl ⟨rfl,HB9.out⟩
theorem vr (i:aR) (v:bf) (ep:Int) (key:ByteArray) (m A:aa) (hA:iT A ({aa.zero with kind:=4,epoch:=ep,seq:=(v.sealed.length:Int),nonce:=m.nonce,last:=cT v.sealed,tag:=m.tag}:aa)) (p1 p2:Option Addr) (c1 c2:Nat) (w:World) (h:aP w i v) (hn:v.sealed.length≤4096) (hep:m.epoch=ep) (htm:bc m) (hto:m.told=ar.zero) (hk:key.size=32) (hm:(al m.kind&&aM m)=true) (htg:ak m.tag (jj key.data.toList m)) (hAm:bc A) (hAo:(al A.kind&&aM A)=true) (hAt:A.told=ar.zero):
  Calls Tryz.prog 131 #[.agg ([.pointer (some ⟨i.vb,0,none⟩), .int .i64 ep, .string key]:List Value).toArray,m.v (.slice p1 0 c1) (.slice p2 0 c2)] w fun e w'=>(∃t:ByteArray,e= .returned (.tuple #[({A with tag:=t}:aa).v (.slice none 0 0) (.slice none 0 0), .bool true])∧ak t (jj key.data.toList A))∧Below w.heap.size w w':=by
 have HV:=Lib.hid h
 have HN:=Lib.hid hn
 have HTM:=Lib.hid htm
 have HTO:=Lib.hid hto
 have HKK:=Lib.hid hk
 have HM:=Lib.hid hm
 have HTG:=Lib.hid htg
 have HAM:=Lib.hid hAm
 have HAO:=Lib.hid hAo
 have HAT:=Lib.hid hAt
 have HEP:=Lib.hid hep
 clear h hn htm hto hk hm htg hAm hAo hAt hep
 go_enter Tryz.func131,Tryz.ntmps131
 go_upto_region 1 with(first
  |((with_reducible refine ai 207 (.tmp 0) [.pointer (some ⟨i.vb,0,none⟩), .int .i64 ep, .string key] (some 2) ?hgd ?ho ?hd ?hx ?_);(case hgd|ho|hd|hx=>rfl);(intro b2 w1 l1 B1 e1 z1))
  |((with_reducible refine ai 73 (.tmp 1) (m.cells (.slice p1 0 c1) (.slice p2 0 c2)) (some 3) ?hgd ?ho ?hd ?hx ?_);(case hgd|ho|hd|hx=>rfl);(intro b3 w2 l2 B2 e2 z2))
  |((with_reducible refine af 73 _ cZ (some 4) ?hgd ?ho ?hd ?_);(case hgd|ho|hd=>rfl);(intro b4 w3 l3 B3 e3 z3))
  |fail)
 have L2:w.heap.size≤b3:=Nat.le_trans l1 (Nat.le_trans (Nat.le_of_lt z1) l2)
 have L3:w.heap.size≤b4:=Nat.le_trans L2 (Nat.le_trans (Nat.le_of_lt z2) l3)
 have HX2:=Lib.hid ((B1.below e2 (Nat.lt_of_lt_of_le z1 l2)).below e3 (Nat.lt_of_lt_of_le z1 (Nat.le_trans l2 (Nat.le_trans (Nat.le_of_lt z2) l3))))
 have HX3:=Lib.hid (B2.below e3 (Nat.lt_of_lt_of_le z2 l3))
 have HX4:=Lib.hid B3
 have HB3:=Lib.hid (show Below w.heap.size w w3 from((e1.mono l1).trans (e2.mono L2)).trans (e3.mono L3))
 have HL4:=Lib.hid L3
 have HN34:=Lib.hid (show b3≠b4 by have:=z2;have:=l3;omega)
 clear L2 L3 B1 B2 B3 e1 e2 e3 z1 z2 z3 l1 l2 l3
 have HV3:=Lib.hid (HV.out.below HB3.out)
 have HX33:=Lib.hid HX3.out
 have HX23:=Lib.hid HX2.out
 have HX43:=Lib.hid HX4.out
 have x21:=HX2.out.cell (i:=1) rfl
 have x22:=HX2.out.cell (i:=2) rfl
 have x31:w3.cell? ⟨b3,1,none⟩=some (.int .i64 ep):=by rw[←HEP.out];exact HX3.out.cell (i:=1) rfl
 go_wp2_with (first
  |((with_reducible refine ag 73 (.tmp 3) b3 0 (m.cells (.slice p1 0 c1) (.slice p2 0 c2)) _ (some 25) (HX3.out.range) Tryz.underlying73 rfl ap ?hg ?ho ?hds ?hx ?_);(case ho|hg|hds|hx=>rfl))
  |fail)
 refine(j5 key m _ _ _ (by rw[HTO.out];exact .inl ⟨rfl,_,_,rfl⟩) (by rw[HTO.out];exact .inl ⟨rfl,_,_,rfl⟩) HTM.out).mono ?_
 rintro e w5 ⟨he,hb5⟩
 obtain⟨tg,rfl,ttg⟩:=he.yes ⟨HKK.out,HM.out⟩
 have heq:tg=m.tag:=by have h1:=ttg;have h2:=HTG.out;unfold ak at h1 h2;exact ByteArray.ext (Array.ext' (by rw[h1,h2]))
 subst heq
 have HX25:=Lib.hid (HX23.out.below hb5 HX23.out.lt)
 have HX35:=Lib.hid (HX33.out.below hb5 HX33.out.lt)
 have HX45:=Lib.hid (HX43.out.below hb5 HX43.out.lt)
 have HB5:=Lib.hid (HB3.out.trans (hb5.mono HB3.out.size))
 have HV5:=Lib.hid (HV3.out.below hb5)
 have H32:=Lib.hid (show m.tag.size=32 by rw[ttg.size];exact dR _ _)
 clear hb5 he ttg x21 x22 x31
 have x34:=HX35.out.cell (i:=4) rfl
 go_wp2_with fail
 refine(kg m.tag m.tag _ (by have:=H32.out;omega) rfl).mono ?_
 rintro e w6 ⟨rfl,hb6⟩
 rw[decide_eq_true rfl]
 have HX26:=Lib.hid (HX25.out.below hb6 HX25.out.lt)
 have HX36:=Lib.hid (HX35.out.below hb6 HX35.out.lt)
 have HX46:=Lib.hid (HX45.out.below hb6 HX45.out.lt)
 have HB6:=Lib.hid (HB5.out.trans (hb6.mono HB5.out.size))
 have HV6:=Lib.hid (HV5.out.below hb6)
 clear hb6 x34
 have x20:=HX26.out.cell (i:=0) rfl
 go_wp2_with fail
 refine(nq i v _ HV6.out HN.out).mono ?_
 rintro e w7 ⟨⟨v',rfl,hv'⟩,hb7⟩
 obtain⟨ps,cs,rfl⟩:=aQ hv'
 have HR7:=Lib.hid (cH.own hv' rfl)
 have HX27:=Lib.hid (HX26.out.below hb7 HX26.out.lt)
 have HX37:=Lib.hid (HX36.out.below hb7 HX36.out.lt)
 have HX47:=Lib.hid (HX46.out.below hb7 HX46.out.lt)
 have HB7:=Lib.hid (HB6.out.trans (hb7.mono HB6.out.size))
 have HV7:=Lib.hid (HV6.out.below hb7)
 clear hb7 x20 hv'
 go_upto_region 7 with fail
 refine hb (fun w'=>w'.cell? ⟨b3,3,none⟩=some (.string m.nonce)∧w'.cell? ⟨b3,4,none⟩=some (.string m.tag)∧w'.cell? ⟨b2,1,none⟩=some (.int .i64 ep)) (⟨HX37.out.drew.cell (i:=3) rfl,HX37.out.drew.cell (i:=4) rfl,HX27.out.drew.cell (i:=1) rfl⟩) fun hHeld=> ?_
 obtain⟨w8,hw8⟩:∃x,x=w7.drew:=⟨_,rfl⟩
 have hb8:Below w7.heap.size w7 w8:=by rw[hw8];exact(Below.refl _ _).drew
 have HX28:=Lib.hid (HX27.out.below hb8 HX27.out.lt)
 have HX38:=Lib.hid (HX37.out.below hb8 HX37.out.lt)
 have HX48:=Lib.hid (HX47.out.below hb8 HX47.out.lt)
 have HB8:=Lib.hid (HB7.out.trans (hb8.mono HB7.out.size))
 have HR8:=Lib.hid (show cH w8 (.slice ps v.sealed.length cs) v.sealed from HR7.out.below hb8 (Nat.le_refl _))
 rw[←hw8]
 rw[←hw8]at hHeld
 clear hw8 hb8
 refine hp 0 ?_
 refine hp 1 ?_
 refine hp 2 ?_
 refine hp 3 ?_
 refine hp 4 ?_
 refine hp 5 ?_
 refine hp 6 ?_
 refine hp 8 ?_
 refine hp 9 ?_
 refine hc2 7 11 (fun K hK=> ?_) (fun K hK=> ?_)
 ·go_simp
  refine(gz _ v.sealed _ HR8.out (by have:=HN.out;omega)).mono ?_
  rintro e w9 ⟨rfl,hb9⟩
  have HX29:=Lib.hid (HX28.out.below hb9 HX28.out.lt)
  have HX39:=Lib.hid (HX38.out.below hb9 HX38.out.lt)
  have HX49:=Lib.hid (HX48.out.below hb9 HX48.out.lt)
  have HB9:=Lib.hid (HB8.out.trans (hb9.mono HB8.out.size))
  clear hb9
  (try go_wp2_with fail)
  refine hK.out _ _ (⟨HX39.out.cell (i:=3) rfl,HX39.out.cell (i:=4) rfl,HX29.out.cell (i:=1) rfl⟩) fun _=> ?_
  clear hK K hHeld
  rename_i hHeld
  (try go_frame)
  refine hu 10 73 (A.cells (.slice none 0 0) (.slice none 0 0)) (by rw[hA.eq];kernel_rfl) ?_
  refine hc 11 fun K hK=> ?_
  refine nr 73 (aa.cells aa.zero (.slice none 0 0) (.slice none 0 0)) cZ rfl ?_
  intro b9 w10 l9 B9 e9 z9
  have hb10:=e9.mono l9
  have HX210:=Lib.hid (HX29.out.below hb10 HX29.out.lt)
  have HX310:=Lib.hid (HX39.out.below hb10 HX39.out.lt)
  have HX410:=Lib.hid (HX49.out.below hb10 HX49.out.lt)
  have HB10:=Lib.hid (HB9.out.trans (hb10.mono HB9.out.size))
  have HX910:=Lib.hid B9
  have HN49:=Lib.hid (show b4≠b9 by have:=HX49.out.lt;omega)
  have HN39:=Lib.hid (show b3≠b9 by have:=HX39.out.lt;omega)
  have HN29:=Lib.hid (show b2≠b9 by have:=HX29.out.lt;omega)
  have HL9:=Lib.hid (show w.heap.size≤b9 by have:=HB9.out.size;omega)
  clear B9 e9 l9 z9 hb10
  (try go_wp2_with fail)
  refine hK.out _ _ (⟨HX310.out.cell (i:=3) rfl,HX310.out.cell (i:=4) rfl,HX210.out.cell (i:=1) rfl⟩) fun _=> ?_
  clear hK K hHeld
  rename_i hHeld
  (try go_frame)
  refine hc 12 fun K hK=> ?_
  refine fG 73 (.tmp 9) (.tmp 52) b9 (aa.cells aa.zero (.slice none 0 0) (.slice none 0 0)) (A.cells (.slice none 0 0) (.slice none 0 0)) 73 HX910.out rfl ap (dL _) rfl rfl rfl ?_
  intro wz Bz oz
  have HX9z:=Lib.hid Bz
  have HX4z:=Lib.hid (oz.blk HX410.out HN49.out)
  have HX3z:=Lib.hid (oz.blk HX310.out HN39.out)
  have HX2z:=Lib.hid (oz.blk HX210.out HN29.out)
  have HBz:=Lib.hid (oz.below HB10.out HL9.out)
  clear Bz oz
  (try go_wp2_with fail)
  refine hK.out _ _ (⟨HX3z.out.cell (i:=3) rfl,HX3z.out.cell (i:=4) rfl,HX2z.out.cell (i:=1) rfl⟩) fun _=> ?_
  clear hK K hHeld
  rename_i hHeld
  (try go_frame)
  refine hd ?_
  clear hHeld
  have x22:=HX2z.out.cell (i:=2) rfl
  go_wp2_with (first
   |((with_reducible refine ag 73 (.tmp 9) b9 0 (A.cells (.slice none 0 0) (.slice none 0 0)) _ (some 56) (HX9z.out.range) Tryz.underlying73 rfl ap ?hg ?ho ?hds ?hx ?_);(case ho|hg|hds|hx=>rfl))
   |fail)
  refine(j5 key A _ _ _ (by rw[HAT.out];exact aC.nil _ _) (by rw[HAT.out];exact aC.nil _ _) HAM.out).mono ?_
  rintro e wy ⟨he,hby⟩
  obtain⟨t,rfl,tt⟩:=he.yes ⟨HKK.out,HAO.out⟩
  have TT:=Lib.hid tt
  have HX9y:=Lib.hid (HX9z.out.below hby HX9z.out.lt)
  have HX4y:=Lib.hid (HX4z.out.below hby HX4z.out.lt)
  have HBy:=Lib.hid (HBz.out.trans (hby.mono HBz.out.size))
  clear hby he tt x22
  obtain⟨A',hA'⟩:∃A':aa,A'={A with tag:=t}:=⟨_,rfl⟩
  have IA':iT A' {A with tag:=t}:=⟨hA'⟩
  clear hA'
  go_wp2_with (first
   |((with_reducible refine aj 9 (.tmp 64) (.tmp 63) b9 4 (.string t) _ _ HX9y.out (Nat.le_of_ble_eq_true rfl) (by kernel_rfl) rfl ?hgd ?ho ?hx ?hy ?_);(case hgd|ho|hx|hy=>rfl);(intro wx Bx ox;have HX9x:=Lib.hid (show ac wx b9 (A'.cells (.slice none 0 0) (.slice none 0 0)) 73 by rw[IA'.eq];exact Bx);have HX4x:=Lib.hid (ox.blk HX4y.out HN49.out);have HBx:=Lib.hid (ox.below HBy.out HL9.out);clear Bx ox))
   |((with_reducible refine ag 73 (.tmp 9) b9 0 (A'.cells (.slice none 0 0) (.slice none 0 0)) _ (some 65) (HX9x.out.range) Tryz.underlying73 rfl ap ?hg ?ho ?hds ?hx ?_);(case ho|hg|hds|hx=>rfl))
   |((with_reducible refine ae 73 (.tmp 4) (.tmp 65) b4 (aa.cells aa.zero (.slice none 0 0) (.slice none 0 0)) (A'.cells (.slice none 0 0) (.slice none 0 0)) 73 HX4x.out rfl ap (dL _) ?hgd ?ho ?hx ?hy ?_);(case hgd|ho|hx|hy=>rfl);(intro wv Bv ov))
   |fail)
  (try simp only[Exit.inBlock,Exit.then]);refine bodyPost_ret (aL rfl _ _ Bv.range rfl Tryz.underlying73 rfl ap) rfl ⟨⟨t,by rw[←IA'.eq];rfl,TT.out⟩,ov.below HBx.out HL4.out⟩
 ·refine nr 73 (aa.cells aa.zero (.slice none 0 0) (.slice none 0 0)) cZ rfl ?_
  intro b9 w9 l9 B9 e9 z9
  have hb9:=e9.mono l9
  have HX29:=Lib.hid (HX28.out.below hb9 HX28.out.lt)
  have HX39:=Lib.hid (HX38.out.below hb9 HX38.out.lt)
  have HX49:=Lib.hid (HX48.out.below hb9 HX48.out.lt)
  have HB9:=Lib.hid (HB8.out.trans (hb9.mono HB8.out.size))
  have HX99:=Lib.hid B9
  have HN49:=Lib.hid (show b4≠b9 by have:=HX48.out.lt;omega)
  have HN39:=Lib.hid (show b3≠b9 by have:=HX38.out.lt;omega)
  have HN29:=Lib.hid (show b2≠b9 by have:=HX28.out.lt;omega)
  have HL9:=Lib.hid (show w.heap.size≤b9 by have:=HB8.out.size;omega)
  have HR9:=Lib.hid (show cH w9 (.slice ps v.sealed.length cs) v.sealed from HR8.out.below hb9 (Nat.le_refl _))
  clear B9 e9 l9 z9 hb9
  (try go_wp2_with fail)
  refine hK.out _ _ (⟨HX39.out.cell (i:=3) rfl,HX39.out.cell (i:=4) rfl,HX29.out.cell (i:=1) rfl⟩) fun _=> ?_
  clear hK K hHeld
  rename_i hHeld
  (try go_frame)
  refine hc 7 fun K hK=> ?_
  go_simp
  refine(gz _ v.sealed _ HR9.out (by have:=HN.out;omega)).mono ?_
  rintro e w10 ⟨rfl,hb10⟩
  have HX210:=Lib.hid (HX29.out.below hb10 HX29.out.lt)
  have HX310:=Lib.hid (HX39.out.below hb10 HX39.out.lt)
  have HX410:=Lib.hid (HX49.out.below hb10 HX49.out.lt)
  have HB10:=Lib.hid (HB9.out.trans (hb10.mono HB9.out.size))
  have HX910:=Lib.hid (HX99.out.below hb10 HX99.out.lt)
  clear hb10
  (try go_wp2_with fail)
  refine hK.out _ _ (⟨HX310.out.cell (i:=3) rfl,HX310.out.cell (i:=4) rfl,HX210.out.cell (i:=1) rfl⟩) fun _=> ?_
  clear hK K hHeld
  rename_i hHeld
  (try go_frame)
  refine hu 10 73 (A.cells (.slice none 0 0) (.slice none 0 0)) (by rw[hA.eq];kernel_rfl) ?_
  refine hc 12 fun K hK=> ?_
  refine fG 73 (.tmp 9) (.tmp 52) b9 (aa.cells aa.zero (.slice none 0 0) (.slice none 0 0)) (A.cells (.slice none 0 0) (.slice none 0 0)) 73 HX910.out rfl ap (dL _) rfl rfl rfl ?_
  intro wz Bz oz
  have HX9z:=Lib.hid Bz
  have HX4z:=Lib.hid (oz.blk HX410.out HN49.out)
  have HX3z:=Lib.hid (oz.blk HX310.out HN39.out)
  have HX2z:=Lib.hid (oz.blk HX210.out HN29.out)
  have HBz:=Lib.hid (oz.below HB10.out HL9.out)
  clear Bz oz
  (try go_wp2_with fail)
  refine hK.out _ _ (⟨HX3z.out.cell (i:=3) rfl,HX3z.out.cell (i:=4) rfl,HX2z.out.cell (i:=1) rfl⟩) fun _=> ?_
  clear hK K hHeld
  rename_i hHeld
  (try go_frame)
  refine hd ?_
  clear hHeld
  have x22:=HX2z.out.cell (i:=2) rfl
  go_wp2_with (first
   |((with_reducible refine ag 73 (.tmp 9) b9 0 (A.cells (.slice none 0 0) (.slice none 0 0)) _ (some 56) (HX9z.out.range) Tryz.underlying73 rfl ap ?hg ?ho ?hds ?hx ?_);(case ho|hg|hds|hx=>rfl))
   |fail)
  refine(j5 key A _ _ _ (by rw[HAT.out];exact aC.nil _ _) (by rw[HAT.out];exact aC.nil _ _) HAM.out).mono ?_
  rintro e wy ⟨he,hby⟩
  obtain⟨t,rfl,tt⟩:=he.yes ⟨HKK.out,HAO.out⟩
  have TT:=Lib.hid tt
  have HX9y:=Lib.hid (HX9z.out.below hby HX9z.out.lt)
  have HX4y:=Lib.hid (HX4z.out.below hby HX4z.out.lt)
  have HBy:=Lib.hid (HBz.out.trans (hby.mono HBz.out.size))
  clear hby he tt x22
  obtain⟨A',hA'⟩:∃A':aa,A'={A with tag:=t}:=⟨_,rfl⟩
  have IA':iT A' {A with tag:=t}:=⟨hA'⟩
  clear hA'
  go_wp2_with (first
   |((with_reducible refine aj 9 (.tmp 64) (.tmp 63) b9 4 (.string t) _ _ HX9y.out (Nat.le_of_ble_eq_true rfl) (by kernel_rfl) rfl ?hgd ?ho ?hx ?hy ?_);(case hgd|ho|hx|hy=>rfl);(intro wx Bx ox;have HX9x:=Lib.hid (show ac wx b9 (A'.cells (.slice none 0 0) (.slice none 0 0)) 73 by rw[IA'.eq];exact Bx);have HX4x:=Lib.hid (ox.blk HX4y.out HN49.out);have HBx:=Lib.hid (ox.below HBy.out HL9.out);clear Bx ox))
   |((with_reducible refine ag 73 (.tmp 9) b9 0 (A'.cells (.slice none 0 0) (.slice none 0 0)) _ (some 65) (HX9x.out.range) Tryz.underlying73 rfl ap ?hg ?ho ?hds ?hx ?_);(case ho|hg|hds|hx=>rfl))
   |((with_reducible refine ae 73 (.tmp 4) (.tmp 65) b4 (aa.cells aa.zero (.slice none 0 0) (.slice none 0 0)) (A'.cells (.slice none 0 0) (.slice none 0 0)) 73 HX4x.out rfl ap (dL _) ?hgd ?ho ?hx ?hy ?_);(case hgd|ho|hx|hy=>rfl);(intro wv Bv ov))
   |fail)
  (try simp only[Exit.inBlock,Exit.then]);refine bodyPost_ret (aL rfl _ _ Bv.range rfl Tryz.underlying73 rfl ap) rfl ⟨⟨t,by rw[←IA'.eq];rfl,TT.out⟩,ov.below HBx.out HL4.out⟩
end Go.Proofs.YtngiibgdgenidaaGreat
