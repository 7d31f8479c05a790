/- A volume is mounted of a disk whose journal has no block yet (chapter 26). Versions (chapter 14): how they stand. No program in sight. Walks of record.Check, Put and the documents' Right, Put (chapter 19), of any record. -/
import Derived.Test.YtngiibgdgenidaaGreatQ12
import Derived.Test.YtngiibgdgenidaaGreatQ4
import Derived.Test.YtngiibgdgenidaaGreatQ7
import Derived.Test.YtngiibgdgenidaaGreatQ6
import Derived.Test.YtngiibgdgenidaaGreatQ5
import Derived.Deep.RegionHeld3
import Derived.Deep.RegionWith
import Derived.Test.YtngiibgdgenidaaGreatQ2
import Derived.Lib.SmallJoins
import Derived.Deep.Fields
import Derived.Deep.QuietTactic
import Derived.BigQuiet
set_option linter.unusedSimpArgs false
set_option linter.unusedVariables false
set_option maxRecDepth 100000
set_option maxHeartbeats 4000000
namespace Go.Proofs.YtngiibgdgenidaaGreat
open Go Go.RowKit
theorem mj {w:World} {jb db:Nat} {sv:Value} {s:aD} {t:TypeId} (h:ac w jb (bK sv db s) t):w.rangeAt jb 2 s.cells:=by
 intro j v hv
 match j,hv with
 |0,hv=>simp[aD.cells]at hv;subst hv;exact h.cell (i:=2) rfl
 |1,hv=>simp[aD.cells]at hv;subst hv;exact h.cell (i:=3) rfl
 |2,hv=>simp[aD.cells]at hv;subst hv;exact h.cell (i:=4) rfl
 |3,hv=>simp[aD.cells]at hv;subst hv;exact h.cell (i:=5) rfl
 |4,hv=>simp[aD.cells]at hv;subst hv;exact h.cell (i:=6) rfl
 |5,hv=>simp[aD.cells]at hv;subst hv;exact h.cell (i:=7) rfl
 |6,hv=>simp[aD.cells]at hv;subst hv;exact h.cell (i:=8) rfl
 |j+7,hv=>simp[aD.cells]at hv
theorem jq (jb db:Nat) (sv:Value) (gen tail epoch clock blocks lbas first:Int) (w:World) (h:ac w jb (bK sv db ⟨gen,tail,epoch,clock,⟨blocks,lbas,first⟩⟩) 176):
  Calls Tryz.prog 162 #[.pointer (some ⟨jb,0,none⟩)] w fun e w'=>e= .returned (.agg #[.int .i64 gen, .int .i64 tail, .int .i64 epoch, .int .i64 clock, .int .i64 blocks, .int .i64 lbas, .int .i64 first])∧Below w.heap.size w w':=by
 go_enter Tryz.func162,Tryz.ntmps162
 go_wp2_with (first
  |((with_reducible refine af 174 _ dH (some 2) ?hgd ?ho ?hd ?_);(case hgd|ho|hd=>rfl);(intro b2 w2 l2 B2 e2 z2);(have H2:=mj (h.below (e2.mono l2) h.lt)))
  |((with_reducible refine ag 174 (.tmp 8) jb 2 (aD.cells ⟨gen,tail,epoch,clock,⟨blocks,lbas,first⟩⟩) _ (some 9) H2 Tryz.underlying174 rfl aZ ?hg ?ho ?hds ?hx ?_);(case ho|hg|hds|hx=>rfl))
  |((with_reducible refine ae 174 (.tmp 2) (.tmp 9) b2 aD.zero.cells (aD.cells ⟨gen,tail,epoch,clock,⟨blocks,lbas,first⟩⟩) 174 B2 rfl aZ (dy _) ?hgd ?ho ?hx ?hy ?_);(case hgd|ho|hx|hy=>rfl);(intro w3 B3 o3))
  |fail)
 (try simp only[Exit.inBlock,Exit.then]);refine bodyPost_ret (dO rfl _ _ B3.range rfl Tryz.underlying174 rfl aZ) rfl ⟨rfl,o3.below (e2.mono l2) l2⟩
theorem yY (fb vb m:Nat) (cv:Value) (p:Option Addr) (c:Nat) (w:World) (h:ac w fb [.pointer (some ⟨vb,0,none⟩),cv, .map (some m), .slice p 0 c] 246):
  Calls Tryz.prog 163 #[.pointer (some ⟨fb,0,none⟩)] w fun e w'=>e= .returned (.int .i64 0)∧w=w':=by
 have c3:=h.cell (i:=3) rfl
 go_enter Tryz.func163,Tryz.ntmps163
 go_wp2_with fail
 go_step3
 go_wp2_with fail
 go_step3
 go_wp2_with fail
 go_loopw [12] (fun v wr=>v= .int .i64 0∧w=wr) (fun _ _=>0)
 case atStart=>exact⟨rfl,rfl⟩
 case round=>
  obtain⟨rfl,rfl⟩:=hrel
  go_wp2_with fail
  rw[Exit.noGoto_ret]
  go_ret
  exact⟨rfl,rfl⟩
theorem wO (fb vb m:Nat) (cv lv:Value) (p:Option Addr) (c:Nat) (w:World) (h:ac w fb [.pointer (some ⟨vb,0,none⟩),cv, .map (some m),lv] 246) (hs:w.cell? ⟨vb,4,none⟩=some (.slice p 0 c)):
  Calls Tryz.prog 165 #[.pointer (some ⟨fb,0,none⟩)] w fun e w'=>e= .returned (.int .i64 0)∧w=w':=by
 have c0:=h.cell (i:=0) rfl
 go_enter Tryz.func165,Tryz.ntmps165
 go_wp2_with fail
 go_loopw [13] (fun v wr=>v= .int .i64 0∧w=wr) (fun _ _=>0)
 case atStart=>exact⟨rfl,rfl⟩
 case round=>
  obtain⟨rfl,rfl⟩:=hrel
  go_wp2_with fail
  go_ret
  exact⟨rfl,rfl⟩
theorem sK (fb vb m:Nat) (lv:Value) (p:Option Addr) (c:Nat) (w:World) (h:ac w fb [.pointer (some ⟨vb,0,none⟩), .slice p 0 c, .map (some m),lv] 246):
  Calls Tryz.prog 166 #[.pointer (some ⟨fb,0,none⟩)] w fun e w'=>e= .returned (.int .i64 0)∧w=w':=by
 have c1:=h.cell (i:=1) rfl
 go_enter Tryz.func166,Tryz.ntmps166
 go_wp2_with fail
 go_loopw [14] (fun v wr=>v= .int .i64 0∧w=wr) (fun _ _=>0)
 case atStart=>exact⟨rfl,rfl⟩
 case round=>
  obtain⟨rfl,rfl⟩:=hrel
  go_wp2_with fail
  go_loopw [3,39] (fun n v wr=>n= .int .i64 0∧v= .int .i64 0∧w=wr) (fun _ _ _=>0)
  case atStart=>exact⟨rfl,rfl,rfl⟩
  case round=>
   obtain⟨rfl,rfl,rfl⟩:=hrel
   go_wp2_with fail
   go_ret
   exact⟨rfl,rfl⟩
structure eW (w:World) (lo vb jb sb db xb bb cb c2 m1 m2 m3:Nat) (ro:Option Addr) (key data:ByteArray) (gen clock n lbas first ep:Int) (d:am):Prop where
 vol:ac w vb [.pointer (some ⟨jb,0,none⟩), .string key, .string data, .pointer (some ⟨xb,0,none⟩), .slice none 0 0, .pointer (some ⟨bb,0,none⟩), .pointer (some ⟨cb,0,none⟩), .pointer ro] 156
 jour:ac w jb (bK (.pointer (some ⟨sb,0,none⟩)) db ⟨gen,0,ep,clock,⟨n,lbas,first⟩⟩) 176
 space:ac w sb (ct ⟨n,lbas,first⟩ 0) 269
 disk:az w db d
 index:ac w xb [.bool true, .slice none 0 0] 263
 book:ac w bb (bB c2 first ep m1 m2 m3) 234
 bclock:ac w c2 [.bool true, .int .i64 0] 231
 clock:ac w cb [.bool true, .int .i64 clock] 231
 maps:cd w m1 m2 m3 0 (.map []) (.map []) (.map [])
 o:lo≤sb∧sb<jb∧jb<xb∧xb<vb∧vb<c2∧vb<bb∧bb<cb∧c2<cb∧bb≠c2
 om:lo≤m1∧lo≤m2∧lo≤m3
theorem wP (db n ep:Nat) (ro:Option Addr) (gen clock lbas first:Int) (key data:ByteArray) (d:am) (w:World) (h:az w db d) (hdata:data.size=16) (hfe:first=(ep:Int)) (hso:gi (⟨gen,((0:Nat):Int),(ep:Int),clock,⟨(n:Int),lbas,first⟩⟩:aD))
  (hd:d.down=false) (hc:d.cs.length≤4096) (hb:d.bs.length≤1024) (hn:d.bs.length=n) (hsh:∀i,4≤i→i<n→d.shown i=(⟨(List.replicate 4096 0).toArray⟩:ByteArray)) (bE:(if ep % 2=0 then d.shown 3 else d.shown 2)=(⟨(List.replicate 4096 0).toArray⟩:ByteArray))
  (hF:∀wx,az wx db d→Calls Tryz.prog 259 #[.pointer (some ⟨db,0,none⟩)] wx fun e w'=>e= .returned (.tuple #[(⟨gen,((0:Nat):Int),(ep:Int),clock,⟨(n:Int),lbas,first⟩⟩:aD).v, .string key, .int .i64 0])∧Below wx.heap.size wx w'):
  Calls Tryz.prog 82 #[.pointer (some ⟨db,0,none⟩), .string data, .pointer ro] w fun e w'=>(∃vb jb sb xb bb cb c2 m1 m2 m3,e= .returned (.tuple #[.pointer (some ⟨vb,0,none⟩), .int .i64 0])∧eW w' w.heap.size vb jb sb db xb bb cb c2 m1 m2 m3 ro key data gen clock n lbas first ep d)∧Below w.heap.size w w':=by
 have hmm:=@run_makeMap Tryz.prog
 have hds:(data.size:Int)=16:=by omega
 have hfa:∀(a b c d e f g:Int) (w:World),Sem.run Tryz.prog (Instr.field 174 (.agg #[.int .i64 a, .int .i64 b, .int .i64 c, .int .i64 d, .int .i64 e, .int .i64 f, .int .i64 g]) 4) w= .ok (.agg #[.int .i64 e, .int .i64 f, .int .i64 g]) w:=fun _ _ _ _ _ _ _ _=>by kernel_rfl
 have hfb:∀(a b c d e f g:Int) (w:World),Sem.run Tryz.prog (Instr.field 174 (.agg #[.int .i64 a, .int .i64 b, .int .i64 c, .int .i64 d, .int .i64 e, .int .i64 f, .int .i64 g]) 3) w= .ok (.int .i64 d) w:=fun _ _ _ _ _ _ _ _=>by kernel_rfl
 have hfc:∀(a b c d e f g:Int) (w:World),Sem.run Tryz.prog (Instr.field 174 (.agg #[.int .i64 a, .int .i64 b, .int .i64 c, .int .i64 d, .int .i64 e, .int .i64 f, .int .i64 g]) 2) w= .ok (.int .i64 c) w:=fun _ _ _ _ _ _ _ _=>by kernel_rfl
 have hfd:∀(e f g:Int) (w:World),Sem.run Tryz.prog (Instr.field 31 (.agg #[.int .i64 e, .int .i64 f, .int .i64 g]) 2) w= .ok (.int .i64 g) w:=fun _ _ _ _=>by kernel_rfl
 have HDw:=Lib.hid h
 have HSO:=Lib.hid hso
 have HFE:=Lib.hid hfe
 have HOP:=Lib.hid (AP db n 0 ep gen clock lbas first key d w h hso hd hc hb hn (by simpa using hsh) bE hF)
 clear h hso hd hc hb hn hsh bE hF hdata hfe
 go_enter Tryz.func82,Tryz.ntmps82
 go_wp2_with fail
 refine HOP.out.mono ?_
 rintro e wa ⟨⟨jb,sb,lv,rfl,hJ,hP,hown,hl1,hl2⟩,hba⟩
 obtain⟨lp,lc,rfl⟩:=qY hown
 have HBEwa:=Lib.hid hba
 have HDwa:=Lib.hid (HDw.out.below hba)
 have HJwa:=Lib.hid hJ
 have HPwa:=Lib.hid hP
 have HO1:=Lib.hid (And.intro hl1 hl2)
 clear hba hJ hP hown hl1 hl2 HOP
 go_wp2_with fail
 refine(tM _).mono ?_
 rintro e wb ⟨⟨xb,rfl,hX,hlx⟩,hbb⟩
 have HJwb:=Lib.hid (HJwa.out.below hbb HJwa.out.lt)
 have HPwb:=Lib.hid (HPwa.out.below hbb HPwa.out.lt)
 have HXwb:=Lib.hid hX
 have HDwb:=Lib.hid (HDwa.out.below hbb)
 have HBEwb:=Lib.hid (HBEwa.out.trans (hbb.mono HBEwa.out.size))
 have HO2:=Lib.hid (show jb<xb from Nat.lt_of_lt_of_le HJwa.out.lt hlx)
 clear hbb hX hlx
 go_wp2_with (first
  |((with_reducible refine ao 156 ?parts35 [.pointer (some ⟨jb,0,none⟩), .string key, .string data, .pointer (some ⟨xb,0,none⟩), .slice none 0 0, .pointer none, .pointer none, .pointer ro] ?hg ?ho ?hf ?_);(case hg|ho=>rfl);(case hf=>kernel_rfl))
  |((with_reducible refine ai 156 (.tmp 35) [.pointer (some ⟨jb,0,none⟩), .string key, .string data, .pointer (some ⟨xb,0,none⟩), .slice none 0 0, .pointer none, .pointer none, .pointer ro] (some 36) ?hgd ?ho ?hd ?hx ?_);(case hgd|ho|hd|hx=>rfl);(intro vb wc lc B2 e2 z2))
  |fail)
 have hbc:Below wb.heap.size wb wc:=e2.mono lc
 have HO3:=Lib.hid (show xb<vb from Nat.lt_of_lt_of_le HXwb.out.lt lc)
 have HJwc:=Lib.hid (HJwb.out.below hbc HJwb.out.lt)
 have HPwc:=Lib.hid (HPwb.out.below hbc HPwb.out.lt)
 have HXwc:=Lib.hid (HXwb.out.below hbc HXwb.out.lt)
 have HDwc:=Lib.hid (HDwb.out.below hbc)
 have HBEwc:=Lib.hid (HBEwb.out.trans (hbc.mono HBEwb.out.size))
 have HVwc:=Lib.hid B2
 clear B2 e2 z2 lc hbc
 refine(jq jb db (.pointer (some ⟨sb,0,none⟩)) gen ((0:Nat):Int) (ep:Int) clock (n:Int) lbas first _ HJwc.out).mono ?_
 rintro e wd ⟨rfl,hbd⟩
 have HJwd:=Lib.hid (HJwc.out.below hbd HJwc.out.lt)
 have HPwd:=Lib.hid (HPwc.out.below hbd HPwc.out.lt)
 have HXwd:=Lib.hid (HXwc.out.below hbd HXwc.out.lt)
 have HVwd:=Lib.hid (HVwc.out.below hbd HVwc.out.lt)
 have HDwd:=Lib.hid (HDwc.out.below hbd)
 have HBEwd:=Lib.hid (HBEwc.out.trans (hbd.mono HBEwc.out.size))
 clear hbd
 go_wp2_with fail
 refine(nQ first _ (by have:=HSO.out.geo.f0;simpa using this) (by have:=HSO.out.geo.f1;simpa using this)).mono ?_
 rintro e we ⟨⟨bb,c2,m1,m2,m3,rfl,hB,hC2,hlb,hlc,hM,hm1,hm2,hm3⟩,hbe⟩
 have HO4:=Lib.hid (show vb<c2∧vb<bb from⟨Nat.lt_of_lt_of_le HVwd.out.lt hlc,Nat.lt_of_lt_of_le HVwd.out.lt hlb⟩)
 have HJwe:=Lib.hid (HJwd.out.below hbe HJwd.out.lt)
 have HPwe:=Lib.hid (HPwd.out.below hbe HPwd.out.lt)
 have HXwe:=Lib.hid (HXwd.out.below hbe HXwd.out.lt)
 have HVwe:=Lib.hid (HVwd.out.below hbe HVwd.out.lt)
 have HDwe:=Lib.hid (HDwd.out.below hbe)
 have HBEwe:=Lib.hid (HBEwd.out.trans (hbe.mono HBEwd.out.size))
 have HO6:=Lib.hid (show bb≠c2 from by intro h;subst h;have h1:=hB;have h2:=hC2;unfold ac at h1 h2;rw[h1]at h2;simp[bB]at h2)
 have HBwe:=Lib.hid (show ac we bb (bB c2 first (ep:Int) m1 m2 m3) 234 from by have h:=hB;rw[show bB c2 first first m1 m2 m3=bB c2 first (ep:Int) m1 m2 m3 by rw[←HFE.out]]at h;exact h)
 have HC2we:=Lib.hid hC2
 have HMwe:=Lib.hid hM
 have HMB:=Lib.hid (show w.heap.size≤m1∧w.heap.size≤m2∧w.heap.size≤m3 from by have:=HBEwd.out.size;omega)
 clear hbe hB hC2 hlb hlc hM hm1 hm2 hm3
 have k5:=HVwe.out.cell (i:=5) rfl
 have f5:=HVwe.out.free 5
 go_wp2_with fail
 obtain⟨wf,hqwf⟩:∃wf,we.setCell ⟨vb,5,none⟩ (.pointer (some ⟨bb,0,none⟩))=wf:=⟨_,rfl⟩
 have htwf:ab [vb] we wf:=by rw[←hqwf];exact(ab.refl _ _).setCell (.inl (by simp)) 5 _
 have hlo:w.heap.size≤vb:=by have:=HO1.out;have:=HO2.out;have:=HO3.out;omega
 have HVwf:=Lib.hid (show ac wf vb [.pointer (some ⟨jb,0,none⟩), .string key, .string data, .pointer (some ⟨xb,0,none⟩), .slice none 0 0, .pointer (some ⟨bb,0,none⟩), .pointer none, .pointer ro] 156 from by rw[←hqwf];exact(HVwe.out.set 5 _).ext rfl)
 have HJwf:=Lib.hid (htwf.blk HJwe.out (by have:=HO1.out;have:=HO2.out;have:=HO3.out;have:=HO4.out;(try have:=HO5.out);simp;omega))
 have HPwf:=Lib.hid (htwf.blk HPwe.out (by have:=HO1.out;have:=HO2.out;have:=HO3.out;have:=HO4.out;(try have:=HO5.out);simp;omega))
 have HXwf:=Lib.hid (htwf.blk HXwe.out (by have:=HO1.out;have:=HO2.out;have:=HO3.out;have:=HO4.out;(try have:=HO5.out);simp;omega))
 have HBwf:=Lib.hid (htwf.blk HBwe.out (by have:=HO1.out;have:=HO2.out;have:=HO3.out;have:=HO4.out;(try have:=HO5.out);simp;omega))
 have HC2wf:=Lib.hid (htwf.blk HC2we.out (by have:=HO1.out;have:=HO2.out;have:=HO3.out;have:=HO4.out;(try have:=HO5.out);simp;omega))
 have HMwf:=Lib.hid (HMwe.out.turned htwf (by intro x hx hm;simp at hm;exact HMwe.out.ne HVwe.out x hx hm))
 have HDwf:=Lib.hid (HDwe.out.turned htwf (by intro x hx hm;simp at hm;subst hm;have:=HDw.out.lt x hx;omega))
 have HBEwf:=Lib.hid (htwf.below HBEwe.out (by intro x hx;simp at hx;subst hx;exact hlo) HBEwe.out.size)
 rw[hqwf]
 clear hqwf htwf hlo
 clear k5 f5
 refine(jq jb db (.pointer (some ⟨sb,0,none⟩)) gen ((0:Nat):Int) (ep:Int) clock (n:Int) lbas first _ HJwf.out).mono ?_
 rintro e wg0 ⟨rfl,hbg0⟩
 have HJwg0:=Lib.hid (HJwf.out.below hbg0 HJwf.out.lt)
 have HPwg0:=Lib.hid (HPwf.out.below hbg0 HPwf.out.lt)
 have HXwg0:=Lib.hid (HXwf.out.below hbg0 HXwf.out.lt)
 have HVwg0:=Lib.hid (HVwf.out.below hbg0 HVwf.out.lt)
 have HBwg0:=Lib.hid (HBwf.out.below hbg0 HBwf.out.lt)
 have HC2wg0:=Lib.hid (HC2wf.out.below hbg0 HC2wf.out.lt)
 have HMwg0:=Lib.hid (HMwf.out.below hbg0)
 have HDwg0:=Lib.hid (HDwf.out.below hbg0)
 have HBEwg0:=Lib.hid (HBEwf.out.trans (hbg0.mono HBEwf.out.size))
 clear hbg0
 go_wp2_with fail
 refine(jo clock _ HSO.out.c0 HSO.out.c1).mono ?_
 rintro e wg1 ⟨⟨cb,rfl,hC,hlc⟩,hbg1⟩
 have HO5:=Lib.hid (show bb<cb∧c2<cb from⟨Nat.lt_of_lt_of_le HBwg0.out.lt hlc,Nat.lt_of_lt_of_le HC2wg0.out.lt hlc⟩)
 have HJwg1:=Lib.hid (HJwg0.out.below hbg1 HJwg0.out.lt)
 have HPwg1:=Lib.hid (HPwg0.out.below hbg1 HPwg0.out.lt)
 have HXwg1:=Lib.hid (HXwg0.out.below hbg1 HXwg0.out.lt)
 have HVwg1:=Lib.hid (HVwg0.out.below hbg1 HVwg0.out.lt)
 have HBwg1:=Lib.hid (HBwg0.out.below hbg1 HBwg0.out.lt)
 have HC2wg1:=Lib.hid (HC2wg0.out.below hbg1 HC2wg0.out.lt)
 have HMwg1:=Lib.hid (HMwg0.out.below hbg1)
 have HDwg1:=Lib.hid (HDwg0.out.below hbg1)
 have HBEwg1:=Lib.hid (HBEwg0.out.trans (hbg1.mono HBEwg0.out.size))
 have HCwg1:=Lib.hid hC
 clear hbg1 hC hlc
 have k6:=HVwg1.out.cell (i:=6) rfl
 have f6:=HVwg1.out.free 6
 have HMM:=Lib.hid hmm
 clear hmm
 go_upto_region 9 with fail
 obtain⟨wg2,hqwg2⟩:∃wg2,wg1.setCell ⟨vb,6,none⟩ (.pointer (some ⟨cb,0,none⟩))=wg2:=⟨_,rfl⟩
 have htwg2:ab [vb] wg1 wg2:=by rw[←hqwg2];exact(ab.refl _ _).setCell (.inl (by simp)) 6 _
 have hlo:w.heap.size≤vb:=by have:=HO1.out;have:=HO2.out;have:=HO3.out;omega
 have HVwg2:=Lib.hid (show ac wg2 vb [.pointer (some ⟨jb,0,none⟩), .string key, .string data, .pointer (some ⟨xb,0,none⟩), .slice none 0 0, .pointer (some ⟨bb,0,none⟩), .pointer (some ⟨cb,0,none⟩), .pointer ro] 156 from by rw[←hqwg2];exact(HVwg1.out.set 6 _).ext rfl)
 have HJwg2:=Lib.hid (htwg2.blk HJwg1.out (by have:=HO1.out;have:=HO2.out;have:=HO3.out;have:=HO4.out;(try have:=HO5.out);simp;omega))
 have HPwg2:=Lib.hid (htwg2.blk HPwg1.out (by have:=HO1.out;have:=HO2.out;have:=HO3.out;have:=HO4.out;(try have:=HO5.out);simp;omega))
 have HXwg2:=Lib.hid (htwg2.blk HXwg1.out (by have:=HO1.out;have:=HO2.out;have:=HO3.out;have:=HO4.out;(try have:=HO5.out);simp;omega))
 have HBwg2:=Lib.hid (htwg2.blk HBwg1.out (by have:=HO1.out;have:=HO2.out;have:=HO3.out;have:=HO4.out;(try have:=HO5.out);simp;omega))
 have HC2wg2:=Lib.hid (htwg2.blk HC2wg1.out (by have:=HO1.out;have:=HO2.out;have:=HO3.out;have:=HO4.out;(try have:=HO5.out);simp;omega))
 have HCwg2:=Lib.hid (htwg2.blk HCwg1.out (by have:=HO1.out;have:=HO2.out;have:=HO3.out;have:=HO4.out;(try have:=HO5.out);simp;omega))
 have HMwg2:=Lib.hid (HMwg1.out.turned htwg2 (by intro x hx hm;simp at hm;exact HMwg1.out.ne HVwg1.out x hx hm))
 have HDwg2:=Lib.hid (HDwg1.out.turned htwg2 (by intro x hx hm;simp at hm;subst hm;have:=HDw.out.lt x hx;omega))
 have HBEwg2:=Lib.hid (htwg2.below HBEwg1.out (by intro x hx;simp at hx;subst hx;exact hlo) HBEwg1.out.size)
 rw[hqwg2]
 clear hqwg2 htwg2 hlo
 clear k6 f6
 have hmm:=HMM.out
 go_wp2_with (first
  |((with_reducible refine ao 246 ?parts61 [.pointer (some ⟨vb,0,none⟩), .slice none 0 0, .map (some wg2.heap.size), .slice lp 0 lc] ?hg ?ho ?hf ?_);(case hg|ho=>rfl);(case hf=>kernel_rfl))
  |((with_reducible refine ai 246 (.tmp 61) [.pointer (some ⟨vb,0,none⟩), .slice none 0 0, .map (some wg2.heap.size), .slice lp 0 lc] (some 62) ?hgd ?ho ?hd ?hx ?_);(case hgd|ho|hd|hx=>rfl);(intro fb wg3 l3 B3 e3 z3))
  |fail)
 have hbh:Below wg2.heap.size wg2 wg3:=(((Below.refl _ _).alloc (Nat.le_refl _) _).trans (e3.mono (by have:=l3;simp at this;omega)))
 have HJwg3:=Lib.hid (HJwg2.out.below hbh HJwg2.out.lt)
 have HPwg3:=Lib.hid (HPwg2.out.below hbh HPwg2.out.lt)
 have HXwg3:=Lib.hid (HXwg2.out.below hbh HXwg2.out.lt)
 have HVwg3:=Lib.hid (HVwg2.out.below hbh HVwg2.out.lt)
 have HBwg3:=Lib.hid (HBwg2.out.below hbh HBwg2.out.lt)
 have HC2wg3:=Lib.hid (HC2wg2.out.below hbh HC2wg2.out.lt)
 have HCwg3:=Lib.hid (HCwg2.out.below hbh HCwg2.out.lt)
 have HMwg3:=Lib.hid (HMwg2.out.below hbh)
 have HDwg3:=Lib.hid (HDwg2.out.below hbh)
 have HBEwg3:=Lib.hid (HBEwg2.out.trans (hbh.mono HBEwg2.out.size))
 have HFwg3:=Lib.hid B3
 obtain⟨m,HM⟩:∃m,Hid (wg2.heap.size=m):=⟨_,rfl⟩
 rw[HM.out]at HFwg3
 clear hbh B3 e3 z3 l3
 refine(yY fb vb m (.slice none 0 0) lp lc _ HFwg3.out).mono ?_
 rintro e w' ⟨rfl,rfl⟩
 clear hmm
 go_upto_region 13 with fail
 refine wp_region_held_drew (S:=fun wx=>wx.cell? ⟨vb,5,none⟩=some (.pointer (some ⟨bb,0,none⟩))∧wx.cell? ⟨vb,6,none⟩=some (.pointer (some ⟨cb,0,none⟩))) (by kernel_rfl) (⟨HVwg3.out.drew.cell (i:=5) rfl,HVwg3.out.drew.cell (i:=6) rfl⟩) (fun hHeld=> ?_)
 obtain⟨wh,hwh⟩:∃wh,wh=wg3.drew:=⟨_,rfl⟩
 have hbw:Below wg3.heap.size wg3 wh:=by rw[hwh];exact(Below.refl _ _).drew
 have HJwh:=Lib.hid (HJwg3.out.below hbw HJwg3.out.lt)
 have HPwh:=Lib.hid (HPwg3.out.below hbw HPwg3.out.lt)
 have HXwh:=Lib.hid (HXwg3.out.below hbw HXwg3.out.lt)
 have HVwh:=Lib.hid (HVwg3.out.below hbw HVwg3.out.lt)
 have HBwh:=Lib.hid (HBwg3.out.below hbw HBwg3.out.lt)
 have HC2wh:=Lib.hid (HC2wg3.out.below hbw HC2wg3.out.lt)
 have HCwh:=Lib.hid (HCwg3.out.below hbw HCwg3.out.lt)
 have HFwh:=Lib.hid (HFwg3.out.below hbw HFwg3.out.lt)
 have HMwh:=Lib.hid (HMwg3.out.below hbw)
 have HDwh:=Lib.hid (HDwg3.out.below hbw)
 have HBEwh:=Lib.hid (HBEwg3.out.trans (hbw.mono HBEwg3.out.size))
 rw[←hwh]
 rw[←hwh]at hHeld
 clear hwh hbw
 refine hp 0 ?_
 refine hp 1 ?_
 refine hp 2 ?_
 refine hp 3 ?_
 refine hp 5 ?_
 refine wpAnyH_ready (rs:=[4]) (by kernel_rfl) (by simp) ?_
 refine AllReadyH.cons rfl (fun K hK=> ?_) AllReadyH.nil
 go_simp
 refine(eK bb c2 first (ep:Int) m1 m2 m3 _ HBwh.out).mono ?_
 rintro e w' ⟨rfl,rfl⟩
 (try go_wp2_with fail)
 refine hK.out _ _ (⟨HVwh.out.cell (i:=5) rfl,HVwh.out.cell (i:=6) rfl⟩) (fun hHeld2=> ?_)
 clear hK K hHeld
 have hHeld:=hHeld2
 clear hHeld2
 (try go_frame)
 refine wpAnyH_ready (rs:=[6]) (by kernel_rfl) (by simp) ?_
 refine AllReadyH.cons rfl (fun K hK=> ?_) AllReadyH.nil
 go_simp
 refine(jq jb db (.pointer (some ⟨sb,0,none⟩)) gen ((0:Nat):Int) (ep:Int) clock (n:Int) lbas first _ HJwh.out).mono ?_
 rintro e wi ⟨rfl,hbi⟩
 have HJwi:=Lib.hid (HJwh.out.below hbi HJwh.out.lt)
 have HPwi:=Lib.hid (HPwh.out.below hbi HPwh.out.lt)
 have HXwi:=Lib.hid (HXwh.out.below hbi HXwh.out.lt)
 have HVwi:=Lib.hid (HVwh.out.below hbi HVwh.out.lt)
 have HBwi:=Lib.hid (HBwh.out.below hbi HBwh.out.lt)
 have HC2wi:=Lib.hid (HC2wh.out.below hbi HC2wh.out.lt)
 have HCwi:=Lib.hid (HCwh.out.below hbi HCwh.out.lt)
 have HFwi:=Lib.hid (HFwh.out.below hbi HFwh.out.lt)
 have HMwi:=Lib.hid (HMwh.out.below hbi)
 have HDwi:=Lib.hid (HDwh.out.below hbi)
 have HBEwi:=Lib.hid (HBEwh.out.trans (hbi.mono HBEwh.out.size))
 clear hbi
 (try go_wp2_with fail)
 refine hK.out _ _ (⟨HVwi.out.cell (i:=5) rfl,HVwi.out.cell (i:=6) rfl⟩) (fun hHeld2=> ?_)
 clear hK K hHeld
 have hHeld:=hHeld2
 clear hHeld2
 (try go_frame)
 refine hp 7 ?_
 refine hp 8 ?_
 refine hp 9 ?_
 refine hp 10 ?_
 refine hp 11 ?_
 refine hp 12 ?_
 refine hp 13 ?_
 refine hp 15 ?_
 refine hp 16 ?_
 refine hp 17 ?_
 refine hp 18 ?_
 refine wpAnyH_ready (rs:=[14]) (by kernel_rfl) (by simp) ?_
 refine AllReadyH.cons rfl (fun K hK=> ?_) AllReadyH.nil
 go_simp
 refine(nR bb c2 first (ep:Int) m1 m2 m3 _ HBwi.out 0 HC2wi.out).mono ?_
 rintro e w' ⟨rfl,rfl⟩
 (try go_wp2_with fail)
 refine hK.out _ _ (⟨HVwi.out.cell (i:=5) rfl,HVwi.out.cell (i:=6) rfl⟩) (fun hHeld2=> ?_)
 clear hK K hHeld
 have hHeld:=hHeld2
 clear hHeld2
 (try go_frame)
 refine wpAnyH_ready (rs:=[19]) (by kernel_rfl) (by simp) ?_
 refine AllReadyH.cons rfl (fun K hK=> ?_) AllReadyH.nil
 go_simp
 refine(im cb clock _ HCwi.out).mono ?_
 rintro e w' ⟨rfl,rfl⟩
 (try go_wp2_with fail)
 refine hK.out _ _ (⟨HVwi.out.cell (i:=5) rfl,HVwi.out.cell (i:=6) rfl⟩) (fun hHeld2=> ?_)
 clear hK K hHeld
 have hHeld:=hHeld2
 clear hHeld2
 (try go_frame)
 refine hp 20 ?_
 refine hp 21 ?_
 refine wpAnyH_done (by kernel_rfl) ?_ _
 clear hHeld
 have hclk:=HSO.out.c0
 simp only at hclk
 go_wp2_with fail
 refine(wO fb vb m (.slice none 0 0) (.slice lp 0 lc) none 0 _ HFwi.out (HVwi.out.cell (i:=4) rfl)).mono ?_
 rintro e w' ⟨rfl,rfl⟩
 go_wp2_with fail
 refine(sK fb vb m (.slice lp 0 lc) none 0 _ HFwi.out).mono ?_
 rintro e w' ⟨rfl,rfl⟩
 go_wp2_with fail
 go_ret2
 exact⟨⟨vb,jb,sb,xb,bb,cb,c2,m1,m2,m3,rfl,⟨HVwi.out,HJwi.out,HPwi.out,HDwi.out,HXwi.out,HBwi.out,HC2wi.out,HCwi.out,HMwi.out,by have:=HO1.out;have:=HO2.out;have:=HO3.out;have:=HO4.out;have:=HO5.out;have:=HO6.out;omega,HMB.out⟩⟩,HBEwi.out⟩
structure aO where
 lba:Int
 epoch:Int
 slot:Int
def aO.cells (v:aO):List Value:=[.int .i64 v.lba, .int .i64 v.epoch, .int .i64 v.slot]
def cO (l:List aO):List Value:=l.flatMap aO.cells
theorem uh (l:List aO):(cO l).length=l.length*3:=by
 induction l with
 |nil=>rfl
 |cons a r ih=>show(a.cells++cO r).length= _;rw[List.length_append,ih,List.length_cons];show 3+_= _;omega
theorem AQ (l:List aO):∀v∈cO l,v.oneCell'=true:=by
 intro v hv
 simp only[cO,List.mem_flatMap]at hv
 obtain⟨x,_,hx⟩:=hv
 simp[aO.cells]at hx
 rcases hx with rfl|rfl|rfl<;>rfl
theorem DI (l:List aO):∀(j:Nat) (p:aO),l[j]?=some p→(cO l)[j*3]?=some (.int .i64 p.lba)∧(cO l)[j*3+1]?=some (.int .i64 p.epoch)∧(cO l)[j*3+2]?=some (.int .i64 p.slot):=by
 induction l with
 |nil=>intro j p h;simp at h
 |cons a r ih=>
  intro j p h
  cases j with
  |zero=>simp at h;subst h;exact⟨rfl,rfl,rfl⟩
  |succ j=>
   have:=ih j p (by simpa using h)
   show(a.cells++cO r)[(j+1)*3]?= _∧(a.cells++cO r)[(j+1)*3+1]?= _∧(a.cells++cO r)[(j+1)*3+2]?= _
   have ha:a.cells.length=3:=rfl
   rw[List.getElem?_append_right (by omega),List.getElem?_append_right (by omega),List.getElem?_append_right (by omega),ha]
   rw[show(j+1)*3-3=j*3 by omega,show(j+1)*3+1-3=j*3+1 by omega,show(j+1)*3+2-3=j*3+2 by omega]
   exact this
def ui (a b:Int):Int:=if a<b then -1 else if b<a then 1 else 0
def Gx (a b:aO):Int:=if ui a.lba b.lba≠0 then ui a.lba b.lba else if ui a.epoch b.epoch≠0 then ui a.epoch b.epoch else ui a.slot b.slot
theorem gx (r:Rec) (w:World) (hname:r.name.size≤1073741824) (hf:Fits r.epoch):
  Calls Tryz.prog 221 #[r.v] w fun e w'=>e= .returned (.int .i64 (iw r))∧Below w.heap.size w w':=by
 obtain⟨kind,epoch,time,count,target,till,root,name⟩:=r
 by_cases k1:kind=1
 ·subst k1;exact Gn epoch time count target till root name w hname hf
 by_cases k2:kind=2
 ·subst k2;exact Gp epoch time count target till root name w hname hf
 by_cases k5:kind=5
 ·subst k5;exact Gq epoch time count target till root name w hname hf
 by_cases k3:kind=3
 ·subst k3;exact Gs epoch time count target till root name w hname hf
 by_cases k4:kind=4
 ·subst k4;exact Gt epoch time count target till root name w hname hf
 exact Gu kind epoch time count target till root name w hname hf k1 k2 k5 k3 k4
theorem ku {r:Rec} (h:aE r=true):iw r=0:=by unfold iw;rw[h];rfl
theorem nS {r:Rec} (h:aE r=false):iw r=2:=by unfold iw;rw[h];rfl
def cF:List Int:=[1,4,8,4,4,8]
def Rec.nums (r:Rec):List Int:=[r.kind,r.epoch,r.time,r.count,r.target,r.till]
def cz (r:Rec):List UInt8:=fm cF r.nums++bT r.root.data.toList++bT r.name.data.toList
theorem dc {r:Rec} (h:aE r=true):(1≤r.kind∧r.kind≤5)∧(0≤r.epoch∧r.epoch≤4294967295)∧(0≤r.time∧r.time≤1099511627776)∧(0≤r.count∧r.count≤4096)∧(0≤r.target∧r.target≤4294967295)∧(0≤r.till∧r.till≤1099511627776)∧r.root.size≤32∧r.name.size≤16:=by
 obtain⟨kind,epoch,time,count,target,till,root,name⟩:=r
 have e:name.data.toList.length=name.size:=rfl
 simp only[aE,aT,dr,e,Bool.and_eq_true,decide_eq_true_eq]at h ⊢
 obtain⟨⟨⟨⟨h1,h2⟩,h3⟩,h4⟩,h5⟩:=h
 split at h5
 ·simp only[Bool.and_eq_true,decide_eq_true_eq]at h5;omega
 ·split at h5
  ·simp only[Bool.and_eq_true,decide_eq_true_eq]at h5;omega
  ·split at h5
   ·simp only[Bool.and_eq_true,decide_eq_true_eq]at h5;omega
   ·split at h5
    ·simp only[Bool.and_eq_true,decide_eq_true_eq]at h5;omega
    ·simp at h5
theorem yZ {r:Rec} (h:aE r=true):mg cF r.nums:=by
 obtain⟨⟨a1,a2⟩,⟨b1,b2⟩,⟨c1,c2⟩,⟨d1,d2⟩,⟨e1,e2⟩,⟨f1,f2⟩,_,_⟩:=dc h
 refine⟨rfl,fun i a x ha hx=> ?_⟩
 match i,ha,hx with
 |0,ha,hx=>simp[cF,Rec.nums]at ha hx;subst ha;subst hx;simp;omega
 |1,ha,hx=>simp[cF,Rec.nums]at ha hx;subst ha;subst hx;simp;omega
 |2,ha,hx=>simp[cF,Rec.nums]at ha hx;subst ha;subst hx;simp;omega
 |3,ha,hx=>simp[cF,Rec.nums]at ha hx;subst ha;subst hx;simp;omega
 |4,ha,hx=>simp[cF,Rec.nums]at ha hx;subst ha;subst hx;simp;omega
 |5,ha,hx=>simp[cF,Rec.nums]at ha hx;subst ha;subst hx;simp;omega
 |i+6,ha,hx=>simp[cF]at ha
theorem kw (r:Rec):(fm cF r.nums).length=29:=by simp[fm,cF,Rec.nums,beBytes_length]
theorem lu (w:World):
  Calls Tryz.prog 283 #[] w fun e w'=>∃v,e= .returned v∧bF w' v cF∧Below w.heap.size w w':=by
 go_enter Tryz.func283,Tryz.ntmps283
 go_wp2_with fail
 go_ret
 exact⟨_,rfl,bF.blk (xs:=cF) (ac.new w (cF.map (Value.int .i64)) 3) rfl 6,(Below.refl _ _).alloc (Nat.le_refl _) _⟩
def AS (r:Rec) (e:Ending):Prop:=
 (aE r=true∧∃q,e= .returned (.tuple #[.string q, .int .i64 0])∧ak q (cz r))∨(aE r=false∧e= .returned (.tuple #[.string ⟨#[]⟩, .int .i64 2]))
structure fj (w:World) (b:Nat) (r:Rec):Prop where
 lt:b<w.heap.size
 c0:w.cell? ⟨b,0,none⟩=some (.int .i64 r.kind)
 c1:w.cell? ⟨b,1,none⟩=some (.int .i64 r.epoch)
 c2:w.cell? ⟨b,2,none⟩=some (.int .i64 r.time)
 c3:w.cell? ⟨b,3,none⟩=some (.int .i64 r.count)
 c4:w.cell? ⟨b,4,none⟩=some (.int .i64 r.target)
 c5:w.cell? ⟨b,5,none⟩=some (.int .i64 r.till)
 c6:w.cell? ⟨b,6,none⟩=some (.string r.root)
 c7:w.cell? ⟨b,7,none⟩=some (.string r.name)
theorem fj.below {w w':World} {b:Nat} {r:Rec} (h:fj w b r) {B:Nat} (hb:Below B w w') (hB:b<B):fj w' b r:=
 ⟨by have:=hb.size;have:=h.lt;omega,by rw[hb.cell (by exact hB)];exact h.c0,by rw[hb.cell (by exact hB)];exact h.c1,by rw[hb.cell (by exact hB)];exact h.c2,by rw[hb.cell (by exact hB)];exact h.c3,
  by rw[hb.cell (by exact hB)];exact h.c4,by rw[hb.cell (by exact hB)];exact h.c5,by rw[hb.cell (by exact hB)];exact h.c6,by rw[hb.cell (by exact hB)];exact h.c7⟩
theorem fj.blk {w:World} {b:Nat} {r:Rec} {t:TypeId} (h:ac w b r.cells t):fj w b r:=
 ⟨h.lt,h.cell rfl,h.cell rfl,h.cell rfl,h.cell rfl,h.cell rfl,h.cell rfl,h.cell rfl,h.cell rfl⟩
theorem aS {r:Rec}:(Tryz.prog.info? 59).map (·.size)=some r.cells.length:=by kernel_rfl
theorem jr (r:Rec) (w:World) (hroot:r.root.size≤1048576) (hname:r.name.size≤1048576) (hf:Fits r.epoch):
  Calls Tryz.prog 200 #[r.v] w fun e w'=>AS r e∧Below w.heap.size w w':=by
 have hname:r.name.size≤1073741824:=by omega
 cases hok:aE r with
 |false=>
  have HK:=Lib.hid hok;clear hok
  go_enter Tryz.func200,Tryz.ntmps200
  go_wp2_with (first
   |((with_reducible refine ai 59 (.tmp 0) r.cells (some 1) ?hgd ?ho ?hd ?hx ?_);(case hgd|ho|hd|hx=>rfl);(intro b w0 l0 B0 e0 z0))
   |((with_reducible refine au 59 (.tmp 1) b r.cells 59 _ B0 Tryz.underlying59 rfl aS ?hgd ?ho ?hx ?_);(case hgd|ho|hx=>rfl)))
  refine(gx r _ hname hf).mono ?_
  rintro e w1 ⟨rfl,hb1⟩
  rw[nS HK.out]
  have hbw1:Below w.heap.size w w1:=(e0.mono l0).trans (hb1.mono (by omega))
  clear e0 hb1
  go_wp2_with fail
  go_ret2
  exact⟨.inr ⟨HK.out,rfl⟩,hbw1⟩
 |true=>
  have hpk:=yZ hok
  have HK:=Lib.hid hok;clear hok
  go_enter Tryz.func200,Tryz.ntmps200
  go_wp2_with (first
   |((with_reducible refine ai 59 (.tmp 0) r.cells (some 1) ?hgd ?ho ?hd ?hx ?_);(case hgd|ho|hd|hx=>rfl);(intro b w0 l0 B0 e0 z0))
   |((with_reducible refine au 59 (.tmp 1) b r.cells 59 _ B0 Tryz.underlying59 rfl aS ?hgd ?ho ?hx ?_);(case hgd|ho|hx=>rfl)))
  refine(gx r _ hname hf).mono ?_
  rintro e w1 ⟨rfl,hb1⟩
  rw[ku HK.out]
  have R1:=(fj.blk B0).below hb1 z0
  have hbw1:Below w.heap.size w w1:=(e0.mono l0).trans (hb1.mono (by omega))
  have hl1:w.heap.size≤b:=l0
  clear e0 hb1 z0 l0 B0
  obtain⟨kind,epoch,time,count,target,till,root,name⟩:=r
  obtain⟨r1,c0,c1,c2,c3,c4,c5,c6,c7⟩:=R1
  have HP:=Lib.hid hpk;clear hpk
  go_wp2_with fail
  go_region_held3 (fun w'=>w'.cell? ⟨b,0,none⟩=some (.int .i64 kind)∧w'.cell? ⟨b,1,none⟩=some (.int .i64 epoch)∧w'.cell? ⟨b,2,none⟩=some (.int .i64 time)∧w'.cell? ⟨b,3,none⟩=some (.int .i64 count)∧w'.cell? ⟨b,4,none⟩=some (.int .i64 target)∧w'.cell? ⟨b,5,none⟩=some (.int .i64 till)) (go_keep) ((first|(go_at_call 283;refine(lu _).mono ?_;rintro e w2 ⟨v,rfl,hv,hb2⟩;have R2:fj w2 b ⟨kind,epoch,time,count,target,till,root,name⟩:=(by first|exact(fj.mk r1 c0 c1 c2 c3 c4 c5 c6 c7:fj w1 b ⟨kind,epoch,time,count,target,till,root,name⟩).below ((Below.refl _ _).drew.trans hb2) r1|exact(fj.mk r1 c0 c1 c2 c3 c4 c5 c6 c7:fj w1 b ⟨kind,epoch,time,count,target,till,root,name⟩).below (((Below.refl _ _).alloc (Nat.le_refl _) _).drew.trans (hb2.mono (by simp))) r1);obtain⟨r2,p0,p1,p2,p3,p4,p5,p6,p7⟩:=R2)|(go_at_call 179;refine(gK v _ cF [kind,epoch,time,count,target,till] _ (by first|exact hv.below ((Below.refl _ _).alloc (Nat.le_refl _) _) (Nat.le_refl _)|exact hv) (by first|exact bF.blk (xs:=[kind,epoch,time,count,target,till]) (ac.new w2 [.int .i64 kind, .int .i64 epoch, .int .i64 time, .int .i64 count, .int .i64 target, .int .i64 till] _) rfl 6|exact(bF.blk (xs:=[kind,epoch,time,count,target,till]) (ac.drew (ac.new w1 [.int .i64 kind, .int .i64 epoch, .int .i64 time, .int .i64 count, .int .i64 target, .int .i64 till] _)) rfl 6).below hb2 (Nat.le_refl _)) (by simp) (by simp) (by exact HP.out)).mono ?_;rintro e w3 ⟨q,rfl,tq,hb3⟩;have R3:fj w3 b ⟨kind,epoch,time,count,target,till,root,name⟩:=(by first|exact(fj.mk r2 p0 p1 p2 p3 p4 p5 p6 p7:fj w2 b ⟨kind,epoch,time,count,target,till,root,name⟩).below (((Below.refl _ _).alloc (Nat.le_refl _) _).trans (hb3.mono (by simp))) r2|exact(fj.mk r2 p0 p1 p2 p3 p4 p5 p6 p7:fj w2 b ⟨kind,epoch,time,count,target,till,root,name⟩).below hb3 r2);have hbb:Below w1.heap.size w1 w3:=(by first|exact(Below.refl _ _).drew.trans (hb2.trans (((Below.refl w2.heap.size w2).alloc (Nat.le_refl _) _).trans (hb3.mono (by simp))|>.mono hb2.size))|exact((Below.refl w1.heap.size w1).alloc (Nat.le_refl _) _).drew.trans ((hb2.trans (hb3.mono hb2.size)).mono (by simp)));obtain⟨r3,s0,s1,s2,s3,s4,s5,s6,s7⟩:=R3;clear p0 p1 p2 p3 p4 p5 p6 p7 c0 c1 c2 c3 c4 c5 c6 c7)|fail))
  all_goals
   clear s0 s1 s2 s3 s4 s5
   have hl32:=(dc HK.out).2.2.2.2.2.2
   have hr32:root.size≤32:=hl32.1
   have hn16:name.size≤16:=hl32.2
   have sq:q.size≤29:=by rw[tq.size];exact Nat.le_of_eq (kw ⟨kind,epoch,time,count,target,till,root,name⟩)
   clear hl32
   go_wp2_with fail
   go_region_with ((first|(go_at_call_of 182 (Value.string root);refine(fa root _ (by omega)).mono ?_;rintro e wA ⟨x,rfl,tx,hbA⟩;have ltA:b<wA.heap.size:=(by first|exact Nat.lt_of_lt_of_le r3 hbA.size|exact Nat.lt_of_lt_of_le ltB hbA.size);have a6A:=hbA.cell (p:=⟨b,6,none⟩) (by first|exact r3|exact ltB);have a7A:=hbA.cell (p:=⟨b,7,none⟩) (by first|exact r3|exact ltB);have sA:x.size≤36:=(by rw[tx.size,bQ];have e:root.data.toList.length=root.size:=rfl;omega))|(go_at_call_of 182 (Value.string name);refine(fa name _ (by omega)).mono ?_;rintro e wB ⟨y,rfl,ty,hbB⟩;have ltB:b<wB.heap.size:=(by first|exact Nat.lt_of_lt_of_le r3 hbB.size|exact Nat.lt_of_lt_of_le ltA hbB.size);have a6B:=hbB.cell (p:=⟨b,6,none⟩) (by first|exact r3|exact ltA);have a7B:=hbB.cell (p:=⟨b,7,none⟩) (by first|exact r3|exact ltA);have sB:y.size≤36:=(by rw[ty.size,bQ];have e:name.data.toList.length=name.size:=rfl;omega))))
   all_goals go_wp2_with fail
   all_goals go_ret2
   all_goals refine⟨.inl ⟨HK.out,_,rfl,(tq.append tx).append ty⟩, ?_⟩
   all_goals(have hz3:=hbb.size;have hz1:=hbw1.size)
   all_goals first
    |exact hbw1.trans ((hbb.trans ((Below.refl w3.heap.size w3).drew.trans (hbA.trans (hbB.mono hbA.size))|>.mono hbb.size)).mono hz1)
    |exact hbw1.trans ((hbb.trans ((Below.refl w3.heap.size w3).drew.trans (hbB.trans (hbA.mono hbB.size))|>.mono hbb.size)).mono hz1)
def y8 (was:List UInt8) (seq:Int) (r:Rec):List UInt8:=was++beBytes 4 seq.toNat++cz r
def ix (was:ByteArray) (seq:Int) (r:Rec):Prop:=was.size=32∧0≤seq∧seq≤4294967295∧aE r=true
instance (was:ByteArray) (seq:Int) (r:Rec):Decidable (ix was seq r):=by unfold ix;infer_instance
def tX (ok:Prop) (l:List UInt8) (e:Ending):Prop:=
 (ok∧∃r,e= .returned (.tuple #[.string r, .bool true])∧ak r l)∨(¬ok∧e= .returned (.tuple #[.string ⟨#[]⟩, .bool false]))
theorem tX.yes {ok:Prop} {l:List UInt8} {e:Ending} (h:tX ok l e) (ho:ok):∃r,e= .returned (.tuple #[.string r, .bool true])∧ak r l:=by
 rcases h with⟨_,h⟩|⟨h,_⟩
 ·exact h
 ·exact absurd ho h
theorem tX.no {ok:Prop} {l:List UInt8} {e:Ending} (h:tX ok l e) (ho:¬ok):e= .returned (.tuple #[.string ⟨#[]⟩, .bool false]):=by
 rcases h with⟨h,_⟩|⟨_,h⟩
 ·exact absurd h ho
 ·exact h
theorem cP {r:Rec} (h:aE r=true):(cz r).length≤85:=by
 have:=dc h
 have e1:r.root.data.toList.length=r.root.size:=rfl
 have e2:r.name.data.toList.length=r.name.size:=rfl
 unfold cz
 rw[List.length_append,List.length_append,kw,bQ,bQ]
 omega
theorem gy (n:Int) (w:World) (hf:Fits n):
  Calls Tryz.prog 227 #[.int .i64 n, .int .i64 4] w fun e w'=>Ends (0≤n∧n≤4294967295) (beBytes 4 n.toNat) 2 e∧Below w.heap.size w w':=by
 by_cases c1:0≤n∧n≤4294967295
 ·obtain⟨m,rfl⟩:∃m:Nat,n=(m:Int):=⟨n.toNat,by omega⟩
  refine(mC m 4 w (by omega) (by omega) (by omega) (fun _=>by show m<4294967296;omega)).mono ?_
  rintro e w1 ⟨r,rfl,tr,hb⟩
  exact⟨.inl ⟨c1,r,rfl,tr⟩,hb⟩
 ·by_cases c2:n<0
  ·go_enter Tryz.func227,Tryz.ntmps227
   go_wp2_with fail
   go_ret2
   exact⟨.inr ⟨c1,rfl⟩,Below.refl _ _⟩
  ·have d2:0≤n:=by omega
   have d3:4294967296≤n:=by omega
   have d4:(0:Int)<n/4294967296:=by omega
   go_enter Tryz.func227,Tryz.ntmps227
   go_wp2_with fail
   go_ret2
   exact⟨.inr ⟨by omega,rfl⟩,Below.refl _ _⟩
theorem y9 (was:ByteArray) (seq:Int) (r:Rec) (w:World) (hroot:r.root.size≤1048576) (hname:r.name.size≤1048576) (hf:Fits r.epoch) (hs:Fits seq):
  Calls Tryz.prog 306 #[.string was, .int .i64 seq,r.v] w fun e w'=>Ends (ix was seq r) (y8 was.data.toList seq r) 2 e∧Below w.heap.size w w':=by
 by_cases c1:0≤seq∧seq≤4294967295
 rotate_left
 ·go_enter Tryz.func306,Tryz.ntmps306
  go_wp2_with ((with_reducible refine ai 59 (.tmp 2) r.cells (some 5) ?hgd ?ho ?hd ?hx ?_);(case hgd|ho|hd|hx=>rfl);(intro b w0 l0 B0 e0 z0))
  refine(gy seq _ hs).mono ?_
  rintro e w1 ⟨he,hb1⟩
  have he:=he.no c1
  subst he
  go_wp2_with fail
  go_ret2
  exact⟨.inr ⟨fun h=>c1 ⟨h.2.1,h.2.2.1⟩,rfl⟩,(e0.mono l0).trans (hb1.mono (by omega))⟩
 by_cases c2:was.size=32
 rotate_left
 ·have d2:¬(was.size:Int)=32:=by omega
  go_enter Tryz.func306,Tryz.ntmps306
  go_wp2_with ((with_reducible refine ai 59 (.tmp 2) r.cells (some 5) ?hgd ?ho ?hd ?hx ?_);(case hgd|ho|hd|hx=>rfl);(intro b w0 l0 B0 e0 z0))
  refine(gy seq _ hs).mono ?_
  rintro e w1 ⟨he,hb1⟩
  obtain⟨q,rfl,tq⟩:=he.yes c1
  clear he
  go_wp2_with fail
  go_ret2
  exact⟨.inr ⟨fun h=>c2 h.1,rfl⟩,(e0.mono l0).trans (hb1.mono (by omega))⟩
 have d2:(was.size:Int)=32:=by omega
 have hws:was.size≤32:=by omega
 go_enter Tryz.func306,Tryz.ntmps306
 go_wp2_with ((with_reducible refine ai 59 (.tmp 2) r.cells (some 5) ?hgd ?ho ?hd ?hx ?_);(case hgd|ho|hd|hx=>rfl);(intro b w0 l0 B0 e0 z0))
 refine(gy seq _ hs).mono ?_
 rintro e w1 ⟨he,hb1⟩
 obtain⟨q,rfl,tq⟩:=he.yes c1
 clear he
 have sq:q.size≤4:=by rw[tq.size,beBytes_length];omega
 have HB:=Lib.hid (B0.below hb1 z0);clear B0
 go_wp2_with ((with_reducible refine au 59 (.tmp 5) b r.cells 59 _ HB.out Tryz.underlying59 rfl aS ?hgd ?ho ?hx ?_);(case hgd|ho|hx=>rfl))
 refine(jr r _ hroot hname hf).mono ?_
 rintro e w2 ⟨⟨hok,p,rfl,tp⟩|⟨hno,rfl⟩,hb2⟩
 ·have sp:p.size≤85:=by rw[tp.size];exact cP hok
  have HK:=Lib.hid hok;clear hok
  go_wp2_with fail
  go_ret2
  refine⟨.inl ⟨⟨c2,c1.1,c1.2,HK.out⟩,_,rfl,((ak.self was).append tq).append tp⟩,(e0.mono l0).trans ((bt hb1 hb2).mono (by omega))⟩
 ·have HK:=Lib.hid hno;clear hno
  go_wp2_with fail
  go_ret2
  exact⟨.inr ⟨fun h=>by have:=h.2.2.2;rw[HK.out]at this;exact absurd this (by decide),rfl⟩,(e0.mono l0).trans ((bt hb1 hb2).mono (by omega))⟩
def lw (key was:List UInt8) (seq:Int) (r:Rec):List UInt8:=nh (dw key [109,97,99] []) (y8 was seq r)
theorem fg (key was:List UInt8) (seq:Int) (r:Rec):(lw key was seq r).length=32:=dR _ _
theorem rP (key was:ByteArray) (seq:Int) (r:Rec) (w:World) (hroot:r.root.size≤1048576) (hname:r.name.size≤1048576) (hf:Fits r.epoch) (hs:Fits seq):
  Calls Tryz.prog 233 #[.string key, .string was, .int .i64 seq,r.v] w fun e w'=>Ends (key.size=32∧ix was seq r) (lw key.data.toList was.data.toList seq r) 2 e∧Below w.heap.size w w':=by
 go_enter Tryz.func233,Tryz.ntmps233
 go_wp2_with ((with_reducible refine ai 59 (.tmp 3) r.cells (some 7) ?hgd ?ho ?hd ?hx ?_);(case hgd|ho|hd|hx=>rfl);(intro b w0 l0 B0 e0 z0))
 refine(yq key _).mono ?_
 rintro e w1 ⟨⟨c1,q,rfl,tq⟩|⟨c1,rfl⟩,hb1⟩
 ·have C1:=Lib.hid c1;clear c1
  have sq:q.size≤32:=by rw[tq.size,fE];omega
  have HB:=Lib.hid (B0.below hb1 z0);clear B0
  go_wp2_with ((with_reducible refine au 59 (.tmp 7) b r.cells 59 _ HB.out Tryz.underlying59 rfl aS ?hgd ?ho ?hx ?_);(case hgd|ho|hx=>rfl))
  refine(y9 was seq r _ hroot hname hf hs).mono ?_
  rintro e w2 ⟨⟨c2,p,rfl,tp⟩|⟨c2,rfl⟩,hb2⟩
  ·have sp:p.size≤121:=by
    rw[tp.size];unfold y8
    rw[List.length_append,List.length_append,beBytes_length]
    have:=cP c2.2.2.2
    have e1:was.data.toList.length=was.size:=rfl
    have:=c2.1
    omega
   have C2:=Lib.hid c2;clear c2
   go_wp2_with fail
   refine(mI q p _ (by omega) (by omega)).mono ?_
   rintro e w3 ⟨t,rfl,tt,hb3⟩
   go_wp2_with fail
   go_ret2
   refine⟨.inl ⟨⟨C1.out,C2.out⟩,t,rfl,tt.cast ?_⟩,(e0.mono l0).trans ((bt hb1 (bt hb2 hb3)).mono (by omega))⟩
   rw[show q.data.toList= _ from tq,show p.data.toList= _ from tp];rfl
  ·have C2:=Lib.hid c2;clear c2
   go_wp2_with fail
   go_ret2
   exact⟨.inr ⟨fun h=>C2.out h.2,rfl⟩,(e0.mono l0).trans ((bt hb1 hb2).mono (by omega))⟩
 ·have C1:=Lib.hid c1;clear c1
  go_wp2_with fail
  go_ret2
  exact⟨.inr ⟨fun h=>C1.out h.1,rfl⟩,(e0.mono l0).trans (hb1.mono (by omega))⟩
theorem zb (w:World):
  Calls Tryz.prog 282 #[] w fun e w'=>∃r,e= .returned (.string r)∧ak r (List.replicate 32 0)∧Below w.heap.size w w':=by
 go_enter Tryz.func282,Tryz.ntmps282
 go_wp2_with fail
 refine(jh 32 _ (by omega)).mono ?_
 rintro e w1 ⟨r,rfl,tr,hb1⟩
 go_wp2_with fail
 go_ret
 exact⟨r,rfl,tr,hb1⟩
def mY (w:World) (v:Value) (l:List Rec):Prop:=
 (l=[]∧∃(p:Option Addr) (c:Nat),v= .slice p 0 c)∨
 ∃g o c,v= .slice (some ⟨g,o,none⟩) l.length c∧g<w.heap.size∧∀(j:Nat) (r:Rec),l[j]?=some r→w.rangeAt g (o+j*8) r.cells
def gj (epoch now:Int) (i:Nat):List Rec→Int×Nat×Int
 |[]=>(epoch,i,0)
 |r::l=>if aE r=true∧r.epoch=epoch∧now≤r.time then gj (if r.kind=1 then epoch+1 else epoch) r.time (i+1) l else(epoch,i,16)
theorem uj (p:Option Addr) (c:Nat) (w:World):
  Calls Tryz.prog 252 #[.slice p 0 c] w fun e w'=>∃r,e= .returned (.string r)∧ak r (de [])∧Below w.heap.size w w':=by
 go_enter Tryz.func252,Tryz.ntmps252
 go_wp2_with fail
 refine(vu _).mono ?_
 rintro e w1 ⟨b,rfl,l1,B1,hb1,z1⟩
 have h0:Hid (kC w1 b []):=⟨⟨#[]⟩,rfl,B1⟩
 clear B1
 go_wp2_with fail
 go_loopw [9] (fun i wr=>i= .int .i64 0∧w1=wr) (fun i _=>0)
 case atStart=>exact⟨rfl,rfl⟩
 case round=>
  obtain⟨rfl,rfl⟩:=hrel
  go_wp2_with fail
  refine(sk b [] w1 h0.out (by simp)).mono ?_
  rintro e w2 ⟨r,rfl,tr,hb2⟩
  go_wp2_with fail
  go_ret
  exact⟨r,rfl,tr,hb1.trans (hb2.mono hb1.size)⟩
structure ax where
 r:Rec
 tag:ByteArray
def ax.cells (x:ax):List Value:=[.int .i64 x.r.kind, .int .i64 x.r.epoch, .int .i64 x.r.time, .int .i64 x.r.count, .int .i64 x.r.target, .int .i64 x.r.till, .string x.r.root, .string x.r.name, .string x.tag]
def cH (w:World) (v:Value) (l:List ax):Prop:=
 (l=[]∧∃(p:Option Addr) (c:Nat),v= .slice p 0 c)∨
 ∃g o c,v= .slice (some ⟨g,o,none⟩) l.length c∧l.length≤c∧g<w.heap.size∧∀(j:Nat) (x:ax),l[j]?=some x→w.rangeAt g (o+j*9) x.cells
theorem cH.below {w w':World} {v:Value} {l:List ax} (h:cH w v l) {B:Nat} (hb:Below B w w') (hB:w.heap.size≤B):cH w' v l:=by
 refine h.imp id ?_
 rintro⟨g,o,c,h1,hc,h2,h3⟩
 exact⟨g,o,c,h1,hc,by have:=hb.size;omega,fun j x hx i u hu=>by rw[hb.cell (by show g<B;omega)];exact h3 j x hx i u hu⟩
theorem cH.shape {w:World} {v:Value} {l:List ax} (h:cH w v l):∃(p:Option Addr) (c:Nat),v= .slice p l.length c:=by
 rcases h with⟨rfl,p,c,rfl⟩|⟨g,o,c,rfl,_⟩
 ·exact⟨p,c,rfl⟩
 ·exact⟨_,c,rfl⟩
theorem rQ {w:World} {g o:Nat} {x:ax} (h:w.rangeAt g o x.cells):
  w.cell? ⟨g,o,none⟩=some (.int .i64 x.r.kind)∧w.cell? ⟨g,o+1,none⟩=some (.int .i64 x.r.epoch)∧w.cell? ⟨g,o+2,none⟩=some (.int .i64 x.r.time)∧w.cell? ⟨g,o+3,none⟩=some (.int .i64 x.r.count)∧
  w.cell? ⟨g,o+4,none⟩=some (.int .i64 x.r.target)∧w.cell? ⟨g,o+5,none⟩=some (.int .i64 x.r.till)∧w.cell? ⟨g,o+6,none⟩=some (.string x.r.root)∧w.cell? ⟨g,o+7,none⟩=some (.string x.r.name)∧w.cell? ⟨g,o+8,none⟩=some (.string x.tag):=
 ⟨h 0 _ rfl,h 1 _ rfl,h 2 _ rfl,h 3 _ rfl,h 4 _ rfl,h 5 _ rfl,h 6 _ rfl,h 7 _ rfl,h 8 _ rfl⟩
open Go.ChangeShapes Go.WideShapes Go.Deep
structure qS (r:Rec):Prop where
 kind:Fits r.kind
 epoch:Fits r.epoch
 time:Fits r.time
 count:Fits r.count
 target:Fits r.target
 till:Fits r.till
section
variable {H:Type} {enc:TypeId×Value→H} {w:World} {base:Nat} {spare:Nat→Bool} {held:Bool}
end
structure uk (w:World) (v:Value) (l:List ax):Prop where
 row:cH w v l
 fits:∀(j:Nat) (x:ax),l[j]?=some x→qS x.r
section
variable {H:Type} {enc:TypeId×Value→H} {w:World} {base:Nat} {spare:Nat→Bool} {held:Bool}
end
theorem uk.below {w w':World} {v:Value} {l:List ax} (h:uk w v l) {B:Nat} (hb:Below B w w') (hB:w.heap.size≤B):uk w' v l:=⟨h.row.below hb hB,h.fits⟩
def dP (ys:List ax):List Value:=ys.flatMap ax.cells
theorem pQ (ys:List ax) (y:ax):dP (ys++[y])=dP ys++y.cells:=by simp[dP]
theorem DJ (ys:List ax):∀(j:Nat) (y:ax),ys[j]?=some y→∀(i:Nat) (u:Value),y.cells[i]?=some u→(dP ys)[j*9+i]?=some u:=by
 induction ys with
 |nil=>intro j y h;simp at h
 |cons a r ih=>
  intro j y h i u hu
  have ha:a.cells.length=9:=rfl
  show(a.cells++dP r)[_]?= _
  cases j with
  |zero=>
   simp at h
   subst h
   have:=(List.getElem?_eq_some_iff.1 hu).1
   rw[List.getElem?_append_left (by omega),Nat.zero_mul,Nat.zero_add]
   exact hu
  |succ j=>
   rw[List.getElem?_append_right (by omega),ha,show(j+1)*9+i-9=j*9+i by omega]
   exact ih j y (by simpa using h) i u hu
theorem cH.own {w:World} {base n:Nat} {v:Value} {xs:List ax} (h:w.ownsRow base 61 9 v n (dP xs)) (hn:n=xs.length):cH w v xs:=by
 subst hn
 by_cases h0:xs=[]
 ·subst h0
  exact .inl ⟨rfl,qY h⟩
 ·obtain⟨g,cap,z,rfl,hc,hb,hk⟩:=dA h (List.length_pos_iff.2 h0)
  refine .inr ⟨g,0,cap,rfl,hc,hk.lt,fun j x hx i u hu=> ?_⟩
  refine hk.cell ?_
  have h1:=DJ xs j x hx i u hu
  rw[Nat.zero_add,List.getElem?_append_left (List.getElem?_eq_some_iff.1 h1).1]
  exact h1
theorem jf:(Tryz.prog.info? 61).map (fun i=>(i.zero,i.size,i.bytes))=some (some (.agg (ax.cells ⟨Rec.zero,⟨#[]⟩⟩).toArray),9,96):=by kernel_rfl
theorem ax.cells_one (x:ax):∀v∈x.cells,v.oneCell'=true:=by intro v hv;simp[ax.cells]at hv;rcases hv with rfl|rfl|rfl|rfl|rfl|rfl|rfl|rfl|rfl<;>rfl
theorem rR (l:List ax):∀v∈dP l,v.oneCell'=true:=by
 intro v hv
 obtain⟨x,_,hx⟩:=List.mem_flatMap.1 hv
 exact ax.cells_one x v hx
theorem cH.take {w:World} {g o n c:Nat} {l:List ax} (h:cH w (.slice (some ⟨g,o,none⟩) n c) l) (hg:g<w.heap.size) (hn:n=l.length) (hc:n≤c) (hr:∀(j:Nat) (x:ax),l[j]?=some x→w.rangeAt g (o+j*9) x.cells) {k:Nat} (hk:k≤l.length):cH w (.slice (some ⟨g,o,none⟩) k c) (l.take k):=by
 refine .inr ⟨g,o,c,by rw[List.length_take,Nat.min_eq_left hk],by rw[List.length_take];omega,hg,fun j x hx=> ?_⟩
 by_cases hj:j<k
 ·rw[List.getElem?_take_of_lt hj]at hx;exact hr j x hx
 ·rw[List.getElem?_eq_none (by rw[List.length_take];omega)]at hx;simp at hx
structure kL (w:World) (g o n c:Nat) (l:List ax):Prop where
 len:n=l.length
 cap:n≤c
 lt:g<w.heap.size
 at_:∀(j:Nat) (x:ax),l[j]?=some x→w.rangeAt g (o+j*9) x.cells
theorem kL.below {w w':World} {g o n c:Nat} {l:List ax} (h:kL w g o n c l) {B:Nat} (hb:Below B w w') (hB:w.heap.size≤B):kL w' g o n c l:=
 ⟨h.len,h.cap,by have:=hb.size;have:=h.lt;omega,fun j x hx i u hu=>by rw[hb.cell (by show g<B;have:=h.lt;omega)];exact h.at_ j x hx i u hu⟩
theorem kL.take {w:World} {g o n c:Nat} {l:List ax} (h:kL w g o n c l) {k:Nat} (hk:k≤n):cH w (.slice (some ⟨g,o,none⟩) k c) (l.take k):=by
 have h1:=h.len
 have h2:=h.cap
 refine .inr ⟨g,o,c,by rw[List.length_take,Nat.min_eq_left (by omega)],by rw[List.length_take];omega,h.lt,fun j x hx=> ?_⟩
 by_cases hj:j<k
 ·rw[List.getElem?_take_of_lt hj]at hx;exact h.at_ j x hx
 ·rw[List.getElem?_eq_none (by rw[List.length_take];omega)]at hx;simp at hx
theorem kL.row {w:World} {g o n c:Nat} {l:List ax} (h:kL w g o n c l):cH w (.slice (some ⟨g,o,none⟩) n c) l:=by
 have:=h.take (k:=n) (Nat.le_refl _)
 rwa[List.take_of_length_le (by have:=h.len;omega)]at this
end Go.Proofs.YtngiibgdgenidaaGreat
