/- What is told of a place of a closed epoch that has no cells (chapters 14, 16, 17, 26). The sealed records; what is told of a place of an epoch without cells (chapter 26). Rows of structs, in plain words: their cells one behind the other. No program in sight. -/
import Derived.Test.YtngiibgdgenidaaGreatQ4
import Derived.Test.YtngiibgdgenidaaGreatQ16
import Derived.Test.YtngiibgdgenidaaGreatQ26
import Derived.Test.YtngiibgdgenidaaGreatQ15
import Derived.Test.YtngiibgdgenidaaGreatQ2
set_option linter.unusedSimpArgs false
set_option linter.unusedVariables false
set_option maxRecDepth 100000
set_option maxHeartbeats 4000000
namespace Go.Proofs.YtngiibgdgenidaaGreat
open Go Go.RowKit
theorem rm (p:Option Addr) (c:Nat) (f:Value) (w:World):
  Calls Tryz.prog 332 #[.slice p 0 c, .int .i64 0,f] w fun e w'=>e= .returned (.tuple #[.int .i64 0, .bool false])∧w=w':=by
 go_enter Tryz.func332,Tryz.ntmps332
 go_wp2_with fail
 go_loopw [9,10,11] (fun i j k wr=>i= .int .i64 0∧j= .int .i64 0∧wr=w) (fun _ _ _ _=>0)
 case atStart=>exact⟨rfl,rfl,rfl⟩
 case round=>
  obtain⟨rfl,rfl,rfl⟩:=hrel
  go_wp2_with fail
  go_ret2
  exact⟨rfl,rfl⟩
theorem rn (p:Option Addr) (c:Nat) (n:Int) (f:Value) (w:World):
  Calls Tryz.prog 387 #[.slice p 0 c, .int .i64 n,f] w fun e w'=>e= .returned (.tuple #[.int .i64 0, .bool false])∧w=w':=by
 go_enter Tryz.func387,Tryz.ntmps387
 go_wp2_with fail
 go_loopw [9,10,11] (fun i j k wr=>i= .int .i64 0∧j= .int .i64 0∧wr=w) (fun _ _ _ _=>0)
 case atStart=>exact⟨rfl,rfl,rfl⟩
 case round=>
  obtain⟨rfl,rfl,rfl⟩:=hrel
  go_wp2_with fail
  go_ret2
  exact⟨rfl,rfl⟩
theorem zT (xb:Nat) (p:Option Addr) (c:Nat) (lba epoch:Int) (w:World) (hX:ac w xb [.bool true, .slice p 0 c] 263):
  Calls Tryz.prog 265 #[.pointer (some ⟨xb,0,none⟩), .int .i64 lba, .int .i64 epoch] w fun e w'=>e= .returned (.tuple #[.agg (aO.cells ⟨0,0,0⟩).toArray, .bool false])∧Below w.heap.size w w':=by
 have HX:=Lib.hid hX
 have hmf:∀(fn:Fn) (first cap:Array Value) (w:World),(Instr.makeFunc fn first cap).run Tryz.prog w= .ok (.func fn first cap) w:=fun _ _ _ _=>rfl
 have hBV:Tryz.prog.built 171 []=some (aO.cells ⟨0,0,0⟩).toArray:=by kernel_rfl
 clear hX
 go_enter Tryz.func265,Tryz.ntmps265
 go_wp2_with (first
  |((with_reducible refine aw 3 (.tmp 1) (.int .i64 lba) rfl (some 4) ?hgd ?ho ?hd ?hx ?_);(case hgd|ho|hd|hx=>rfl);(intro b4 w4 l4 B4 e4 z4))
  |((with_reducible refine aw 3 (.tmp 2) (.int .i64 epoch) rfl (some 5) ?hgd ?ho ?hd ?hx ?_);(case hgd|ho|hd|hx=>rfl);(intro b5 w5 l5 B5 e5 z5))
  |((with_reducible refine af 171 _ jg (some 6) ?hgd ?ho ?hd ?_);(case hgd|ho|hd=>rfl);(intro b6 w6 l6 B6 e6 z6;have c1:=(((HX.out.below (e4.mono l4) HX.out.lt).below e5 (by have:=HX.out.lt;omega)).below e6 (by have:=HX.out.lt;omega)).cell (i:=1) rfl))
  |fail)
 have hbe:Below w.heap.size w w6:=((e4.mono l4).trans (e5.mono (by omega))).trans (e6.mono (by omega))
 have HB6:=Lib.hid B6
 have HL6:=Lib.hid (show w.heap.size≤b6 from by omega)
 have HBE6:=Lib.hid hbe
 clear B4 B5 B6 e4 e5 e6 l4 l5 l6 z4 z5 z6 hbe
 refine(rm p c _ _).mono ?_
 rintro e w7 ⟨rfl,rfl⟩
 go_upto_region 2 with fail
 refine hb (fun _=>True) (trivial) fun hHeld=> ?_
 refine hp 0 ?_
 refine hp 1 ?_
 refine hp 2 ?_
 refine hn 3 ?_
 refine hn 4 ?_
 refine hn 5 ?_
 refine hn 6 ?_
 refine hn 7 ?_
 refine hn 8 ?_
 refine hn 9 ?_
 refine hn 10 ?_
 refine hn 11 ?_
 refine hn 12 ?_
 refine hn 13 ?_
 refine hp 14 ?_
 refine hd ?_
 go_wp2_with (first
  |((with_reducible refine ao 171 ?parts (aO.cells ⟨0,0,0⟩) ?hg ?ho ?hf ?_);(case hg|ho=>rfl);(case hf=>exact hBV))
  |((with_reducible refine ae 171 (.tmp 6) (.tmp 34) b6 (aO.cells ⟨0,0,0⟩) (aO.cells ⟨0,0,0⟩) 171 HB6.out.drew rfl eb (io _) ?hgd ?ho ?hx ?hy ?_);(case hgd|ho|hx|hy=>rfl);(intro w9 B9 o9))
  |fail)
 (try simp only[Exit.inBlock,Exit.then]);refine bodyPost_ret (aL rfl _ _ B9.range rfl Tryz.underlying171 rfl eb) rfl ⟨rfl,o9.below HBE6.out.drew HL6.out⟩
theorem vk (xb:Nat) (p:Option Addr) (c:Nat) (lba epoch:Int) (w:World) (hX:ac w xb [.bool true, .slice p 0 c] 263):
  Calls Tryz.prog 167 #[.pointer (some ⟨xb,0,none⟩), .int .i64 lba, .int .i64 epoch] w fun e w'=>e= .returned (.tuple #[.agg (aO.cells ⟨0,0,0⟩).toArray, .bool false])∧Below w.heap.size w w':=by
 have HX:=Lib.hid hX
 clear hX
 go_enter Tryz.func167,Tryz.ntmps167
 go_wp2_with (first
  |((with_reducible refine af 171 _ jg (some 6) ?hgd ?ho ?hd ?_);(case hgd|ho|hd=>rfl);(intro b6 w1 l1 B1 e1 z1))
  |fail)
 have hb1:=e1.mono l1
 refine(oM xb _ _ (HX.out.below hb1 HX.out.lt)).mono ?_
 rintro e w' ⟨rfl,rfl⟩
 go_wp2_with fail
 refine(zT xb p c lba epoch _ (HX.out.below hb1 HX.out.lt)).mono ?_
 rintro e w2 ⟨rfl,hb2⟩
 have HB6:=Lib.hid (B1.below hb2 B1.lt)
 have HBE:=Lib.hid (hb1.trans (hb2.mono hb1.size))
 have HL6:=Lib.hid l1
 clear B1 e1 l1 z1 hb1 hb2
 go_wp2_with (first
  |((with_reducible refine ae 171 (.tmp 6) (.tmp 16) b6 (aO.cells ⟨0,0,0⟩) (aO.cells ⟨0,0,0⟩) 171 HB6.out rfl eb (io _) ?hgd ?ho ?hx ?hy ?_);(case hgd|ho|hx|hy=>rfl);(intro w9 B9 o9))
  |fail)
 (try simp only[Exit.inBlock,Exit.then]);refine bodyPost_ret (aL rfl _ _ B9.range rfl Tryz.underlying171 rfl eb) rfl ⟨rfl,o9.below HBE.out HL6.out⟩
theorem vl (xb:Nat) (p:Option Addr) (c:Nat) (lba epoch:Int) (w:World) (hX:ac w xb [.bool true, .slice p 0 c] 263):
  Calls Tryz.prog 315 #[.pointer (some ⟨xb,0,none⟩), .int .i64 lba, .int .i64 epoch] w fun e w'=>e= .returned (.tuple #[.agg (aO.cells ⟨0,0,0⟩).toArray, .bool false])∧Below w.heap.size w w':=by
 have HX:=Lib.hid hX
 have hBV:Tryz.prog.built 171 []=some (aO.cells ⟨0,0,0⟩).toArray:=by kernel_rfl
 clear hX
 go_enter Tryz.func315,Tryz.ntmps315
 go_wp2_with (first
  |((with_reducible refine af 171 _ jg (some 6) ?hgd ?ho ?hd ?_);(case hgd|ho|hd=>rfl);(intro b6 w1 l1 B1 e1 z1))
  |fail)
 have hb1:=e1.mono l1
 have HB6:=Lib.hid B1
 have HL6:=Lib.hid l1
 have HBE:=Lib.hid hb1
 refine(vk xb p c lba epoch _ (HX.out.below hb1 HX.out.lt)).mono ?_
 rintro e w2 ⟨rfl,hb2⟩
 have HB62:=Lib.hid (HB6.out.below hb2 HB6.out.lt)
 have HBE2:=Lib.hid (HBE.out.trans (hb2.mono HBE.out.size))
 clear B1 e1 l1 z1 hb1 hb2
 go_wp2_with (first
  |((with_reducible refine af 171 _ jg (some 8) ?hgd ?ho ?hd ?_);(case hgd|ho|hd=>rfl);(intro b8 w8 l8 B8 e8 z8;have HB68:=Lib.hid (HB62.out.below e8 (Nat.lt_of_lt_of_le HB62.out.lt l8));have HN:=Lib.hid (show b6≠b8 by have:=HB62.out.lt;omega)))
  |((with_reducible refine ae 171 (.tmp 8) (.tmp 15) b8 (aO.cells ⟨0,0,0⟩) (aO.cells ⟨0,0,0⟩) 171 B8 rfl eb (io _) ?hgd ?ho ?hx ?hy ?_);(case hgd|ho|hx|hy=>rfl);(intro w9 B9 o9;have HB69:=Lib.hid (o9.blk HB68.out HN.out);have HB9:=Lib.hid (HBE2.out.trans ((o9.below (e8.mono l8) l8).mono HBE2.out.size));clear B9 o9 B8 e8 z8 l8))
  |((with_reducible refine ao 171 ?parts (aO.cells ⟨0,0,0⟩) ?hg ?ho ?hf ?_);(case hg|ho=>rfl);(case hf=>exact hBV))
  |((with_reducible refine ae 171 (.tmp 6) (.tmp 25) b6 (aO.cells ⟨0,0,0⟩) (aO.cells ⟨0,0,0⟩) 171 HB69.out rfl eb (io _) ?hgd ?ho ?hx ?hy ?_);(case hgd|ho|hx|hy=>rfl);(intro w10 B10 o10))
  |fail)
 (try simp only[Exit.inBlock,Exit.then]);refine bodyPost_ret (aL rfl _ _ B10.range rfl Tryz.underlying171 rfl eb) rfl ⟨rfl,o10.below HB9.out HL6.out⟩
def du:List Value:=[.bool false, .int .i64 0, .int .i64 0, .string ⟨#[]⟩, .int .i64 0, .string ⟨#[]⟩,(.slice none 0 0),(.slice none 0 0)]
theorem j6 (w:World):(zeroValue 67).run Tryz.prog w= .ok (.agg du.toArray) w:=by kernel_rfl
theorem eZ:(Tryz.prog.info? 67).map (·.size)=some du.length:=by kernel_rfl
theorem kX:∀v∈du,v.oneCell'=true:=List.all_eq_true.1 (show(du.all fun v=>v.oneCell')=true from rfl)
theorem xC:Tryz.prog.built 67 [(0, .bool false),(1, .int .i64 0)]=some du.toArray:=by kernel_rfl
theorem vm (p:Option Addr) (c:Nat) (w:World):
  Calls Tryz.prog 284 #[.slice p 0 c] w fun e w'=>e= .returned (.int .i64 0)∧w=w':=by
 go_enter Tryz.func284,Tryz.ntmps284
 go_wp2_with fail
 go_loopw [3,8] (fun i j wr=>j= .int .i64 0∧wr=w) (fun _ _ _=>0)
 case atStart=>exact⟨rfl,rfl⟩
 case round=>
  obtain⟨rfl,rfl⟩:=hrel
  go_wp2_with fail
  go_ret
  exact⟨rfl,rfl⟩
theorem sY (p:Option Addr) (c:Nat) (w:World):
  Calls Tryz.prog 286 #[.slice p 0 c] w fun e w'=>e= .returned (.slice none 0 0)∧w=w':=by
 go_enter Tryz.func286,Tryz.ntmps286
 go_wp2_with fail
 go_loopw [3,8] (fun i j wr=>i=(.slice none 0 0)∧j= .int .i64 0∧wr=w) (fun _ _ _=>0)
 case atStart=>exact⟨rfl,rfl,rfl⟩
 case round=>
  obtain⟨rfl,rfl,rfl⟩:=hrel
  go_wp2_with fail
  go_ret
  exact⟨rfl,rfl⟩
theorem xE (p:Option Addr) (c:Nat) (n:Int) (w:World) (h0:0≤n) (h1:n<4096):
  Calls Tryz.prog 359 #[.slice p 0 c, .int .i64 n] w fun e w'=>e= .returned (.tuple #[.agg du.toArray, .int .i64 0])∧Below w.heap.size w w':=by
 go_enter Tryz.func359,Tryz.ntmps359
 go_wp2_with (first
  |((with_reducible refine af 67 _ j6 (some 4) ?hgd ?ho ?hd ?_);(case hgd|ho|hd=>rfl);(intro b4 w1 l1 B1 e1 z1))
  |fail)
 refine(vm p c _).mono ?_
 rintro e w' ⟨rfl,rfl⟩
 go_wp2_with fail
 refine(lx n _ h0 (by omega)).mono ?_
 rintro e w' ⟨rfl,rfl⟩
 go_wp2_with fail
 refine(sY p c _).mono ?_
 rintro e w' ⟨rfl,rfl⟩
 go_wp2_with fail
 refine(rn p c n _ _).mono ?_
 rintro e w' ⟨rfl,rfl⟩
 have HB4:=Lib.hid B1
 have HL4:=Lib.hid l1
 have HBE:=Lib.hid (e1.mono l1)
 clear B1 e1 l1 z1
 go_wp2_with (first
  |((with_reducible refine ao 67 ?parts du ?hg ?ho ?hf ?_);(case hg|ho=>rfl);(case hf=>exact xC))
  |((with_reducible refine af 67 _ j6 (some 10) ?hgd ?ho ?hd ?_);(case hgd|ho|hd=>rfl);(intro b8 w8 l8 B8 e8 z8;have HB48:=Lib.hid (HB4.out.below e8 (Nat.lt_of_lt_of_le HB4.out.lt l8));have HN:=Lib.hid (show b4≠b8 by have:=HB4.out.lt;omega)))
  |((with_reducible refine ae 67 (.tmp 10) (.tmp 31) b8 du du 67 B8 rfl eZ kX ?hgd ?ho ?hx ?hy ?_);(case hgd|ho|hx|hy=>rfl);(intro w9 B9 o9;have HB49:=Lib.hid (o9.blk HB48.out HN.out);have HB9:=Lib.hid (HBE.out.trans ((o9.below (e8.mono l8) l8).mono HBE.out.size));have HX9:=Lib.hid B9;clear B9 o9 B8 e8 z8 l8))
  |((with_reducible refine ag 67 (.tmp 10) b8 0 (du) _ (some 68) (HX9.out.range) Tryz.underlying67 rfl eZ ?hg ?ho ?hds ?hx ?_);(case ho|hg|hds|hx=>rfl))
  |((with_reducible refine ae 67 (.tmp 4) (.tmp 68) b4 du du 67 HB49.out rfl eZ kX ?hgd ?ho ?hx ?hy ?_);(case hgd|ho|hx|hy=>rfl);(intro w10 B10 o10))
  |fail)
 (try simp only[Exit.inBlock,Exit.then]);refine bodyPost_ret (aL rfl _ _ B10.range rfl Tryz.underlying67 rfl eZ) rfl ⟨rfl,o10.below HB9.out HL4.out⟩
theorem rq (ps B:Nat) (ep n:Int) (w:World) (h:iM w ps B 0 ep (.map [])) (h0:0≤n) (h1:n<4096):
  Calls Tryz.prog 314 #[.pointer (some ⟨ps,0,none⟩), .int .i64 n] w fun e w'=>e= .returned (.tuple #[.agg du.toArray, .int .i64 0])∧Below w.heap.size w w':=by
 have HS:=Lib.hid h
 clear h
 go_enter Tryz.func314,Tryz.ntmps314
 go_wp2_with (first
  |((with_reducible refine af 67 _ j6 (some 4) ?hgd ?ho ?hd ?_);(case hgd|ho|hd=>rfl);(intro b4 w1 l1 B1 e1 z1))
  |fail)
 have HB4:=Lib.hid B1
 have HL4:=Lib.hid l1
 have HBE:=Lib.hid (e1.mono l1)
 have HS1:=Lib.hid (HS.out.below (e1.mono l1))
 clear B1 e1 l1 z1
 refine(hZ ps B 0 ep (.map []) _ HS1.out).mono ?_
 rintro e w' ⟨rfl,rfl⟩
 go_wp2_with fail
 refine(lQ ps B 0 ep (.map []) (fun _=>none) _ HS1.out jU.none).mono ?_
 rintro e w2 ⟨⟨vo,rfl,hvo⟩,hb2⟩
 rw[ij]at hvo
 obtain⟨pv,cv,rfl⟩:=aQ hvo
 have HB42:=Lib.hid (HB4.out.below hb2 HB4.out.lt)
 have HBE2:=Lib.hid (HBE.out.trans (hb2.mono HBE.out.size))
 clear hvo hb2
 simp only[List.length_nil]
 go_wp2_with fail
 refine(xE pv cv n _ h0 h1).mono ?_
 rintro e w3 ⟨rfl,hb3⟩
 have HB43:=Lib.hid (HB42.out.below hb3 HB42.out.lt)
 have HBE3:=Lib.hid (HBE2.out.trans (hb3.mono HBE2.out.size))
 clear hb3
 go_wp2_with (first
  |((with_reducible refine ae 67 (.tmp 4) (.tmp 14) b4 du du 67 HB43.out rfl eZ kX ?hgd ?ho ?hx ?hy ?_);(case hgd|ho|hx|hy=>rfl);(intro w10 B10 o10))
  |fail)
 (try simp only[Exit.inBlock,Exit.then]);refine bodyPost_ret (aL rfl _ _ B10.range rfl Tryz.underlying67 rfl eZ) rfl ⟨rfl,o10.below HBE3.out HL4.out⟩
theorem vp (i:aR) (v:bf) (ep:Int) (w:World) (h:aP w i v) (hf:v.last.geo.first≤ep) (he:ep<v.epoch):
  Calls Tryz.prog 107 #[.pointer (some ⟨i.vb,0,none⟩), .int .i64 ep] w fun e w'=>e= .returned (.int .i64 0)∧Below w.heap.size w w':=by
 have hfa:∀(a b c:Int) (w:World),Sem.run Tryz.prog (Instr.field 31 (.agg #[.int .i64 a, .int .i64 b, .int .i64 c]) 2) w= .ok (.int .i64 c) w:=fun _ _ _ _=>by kernel_rfl
 obtain⟨g0,g1,g2,hg⟩:∃a b c,v.last.geo=⟨a,b,c⟩:=⟨_,_,_,rfl⟩
 have HGV:=Lib.hid (show v.last.geo.v= .agg #[.int .i64 g0, .int .i64 g1, .int .i64 g2] by rw[hg];rfl)
 have hn1:¬ep<g2:=by rw[hg]at hf;exact Int.not_lt.2 hf
 have hn2:¬v.epoch<ep:=by omega
 have hn3:(ep==v.epoch)=false:=beq_eq_false_iff_ne.2 (by omega)
 have H0:=Lib.hid h
 clear h
 go_enter Tryz.func107,Tryz.ntmps107
 go_wp2_with fail
 refine(eC i v _ H0.out).mono ?_
 rintro e w' ⟨rfl,rfl⟩
 go_wp2_with fail
 refine(rV i v _ H0.out).mono ?_
 rintro e w1 ⟨rfl,hb1⟩
 rw[HGV.out]
 have H1:=Lib.hid (H0.out.below hb1)
 have HB1:=Lib.hid hb1
 clear hg hf
 have c5:=H1.out.vol.cell (i:=5) rfl
 clear hb1
 go_wp2_with fail
 refine(eK i.bb i.c2 v.first v.epoch i.m1 i.m2 i.m3 _ H1.out.book).mono ?_
 rintro e w' ⟨rfl,rfl⟩
 go_wp2_with fail
 refine(eK i.bb i.c2 v.first v.epoch i.m1 i.m2 i.m3 _ H1.out.book).mono ?_
 rintro e w' ⟨rfl,rfl⟩
 go_wp2_with fail
 go_ret
 exact⟨rfl,HB1.out⟩
open Go.Maps Go.WideMaps
theorem sZ (v:Value) (n:Nat) (xs:List ax) (w:World) (h:w.ownsRow 0 61 9 v n (dP xs)) (hn:n≤4096):
  Calls Tryz.prog 135 #[v] w fun e w'=>(∃v',e= .returned v'∧w'.ownsRow w.heap.size 61 9 v' n (dP xs))∧Below w.heap.size w w':=by
 obtain⟨i0,hi,hz0,hz1,hz2⟩:=info_parts jf
 rcases h.2 with⟨rfl,rfl⟩|⟨g,cap,cur,rfl,_⟩
 ·have hx:(dP xs)=([]:List Value):=List.eq_nil_of_length_eq_zero (by simpa using h.1)
  have HX:=Lib.hid hx
  clear hx h
  have hnn:∀w,(binOp .eql 106 (.slice none 0 0) (.slice none 0 0)).run Tryz.prog w= .ok (.bool true) w:=fun w=>Lib.run_eql_slice_nil w 106 61 none 0 0 0 0 Tryz.underlying106
  go_enter Tryz.func135,Tryz.ntmps135
  go_wp2_with fail
  go_ret
  exact⟨⟨_,rfl,by rw[HX.out];exact World.ownsRow_nil _ _ _ _⟩,Below.refl _ _⟩
 ·have hnn:∀w,(binOp .eql 106 (.slice (some ⟨g,0,none⟩) n cap) (.slice none 0 0)).run Tryz.prog w= .ok (.bool false) w:=fun w=>Lib.run_eql_slice_nil w 106 61 (some ⟨g,0,none⟩) n cap 0 0 Tryz.underlying106
  have hcs:∀j u,(dP xs)[j]?=some u→(w.alloc (.cells #[] 61)).cell? ((⟨g,0,none⟩:Addr).add j)=some u:=fun j u hu=>(World.ownsRow.alloc h _).cells (g:=g) rfl j u hu
  have HCS:=Lib.hid hcs
  have HL:=Lib.hid h.1
  have HONE:=Lib.hid (show ∀u∈(dP xs),u.oneCell'=true from rR xs)
  clear h hcs
  go_enter Tryz.func135,Tryz.ntmps135
  go_wp2_with (first
   |(at_builtin;refine wpList_append_own_wide _ rfl _ _ 106 rfl w.heap.size 61 i0 (.agg (ax.cells ⟨Rec.zero,⟨#[]⟩⟩).toArray) 9 96 Tryz.underlying106 hi hz0 hz1 hz2 rfl (by decide) _ 0 [] rfl (World.ownsRow_lit w #[] 0 (Nat.le_refl _) (by decide) rfl) ⟨g,0,none⟩ n cap (dP xs) rfl HL.out HCS.out HONE.out (by simp only[maxLen];omega) (by omega) (by simp) ?_;intro v8 w8 own8 grow8 nil8)
   |fail)
  have hb8:Below w.heap.size w w8:=fK ((Below.refl _ _).alloc (Nat.le_refl _) _) (World.ownsRow_lit (e:=61) (size:=9) w #[] 0 (Nat.le_refl _) (by decide) rfl) grow8 (Nat.le_refl _) (by simp)
  rw[Nat.zero_add,List.nil_append]at own8
  have OWN:=Lib.hid own8
  obtain⟨p,c',hv⟩:=aQ own8
  subst hv
  clear own8 grow8 nil8
  go_ret
  exact⟨⟨_,rfl,OWN.out⟩,hb8⟩
theorem nq (i:aR) (v:bf) (w:World) (h:aP w i v) (hn:v.sealed.length≤4096):
  Calls Tryz.prog 72 #[.pointer (some ⟨i.vb,0,none⟩)] w fun e w'=>(∃v',e= .returned v'∧w'.ownsRow w.heap.size 61 9 v' v.sealed.length (dP v.sealed))∧Below w.heap.size w w':=by
 have H0:=Lib.hid h
 obtain⟨ps,cs,hps⟩:=aQ h.sealed
 have HPS:=Lib.hid hps
 have c4:w.cell? ⟨i.vb,4,none⟩=some (.slice ps v.sealed.length cs):=by rw[←hps];exact h.vol.cell (i:=4) rfl
 clear h hps
 go_enter Tryz.func72,Tryz.ntmps72
 go_wp2_with fail
 refine(eC i v _ H0.out).mono ?_
 rintro e w' ⟨rfl,rfl⟩
 go_wp2_with fail
 refine(sZ (.slice ps v.sealed.length cs) _ v.sealed _ (by rw[←HPS.out];exact H0.out.sealed) hn).mono ?_
 rintro e w1 ⟨⟨v',rfl,hv⟩,hb⟩
 go_wp2_with fail
 go_ret
 exact⟨⟨v',rfl,hv⟩,hb⟩
theorem zU:Tryz.prog.built 69 [(0, .agg #[.int .i64 0, .int .i64 0]),(2, .agg du.toArray)]=some bV.toArray:=by kernel_rfl
theorem xF (i:aR) (v:bf) (px:Option Addr) (cx:Nat) (w:World) (h:aP w i v) (hx:i.xv= .slice px 0 cx) (hv:v.vers=[]) (h0:v.last.geo.first≤0) (h1:0<v.last.geo.lbas) (he:0<v.epoch) (hg:v.G.atKey (.int .i64 0) (.lit (.bool false))= .lit (.bool false)):
  Calls Tryz.prog 240 #[.pointer (some ⟨i.vb,0,none⟩), .agg #[.int .i64 0, .int .i64 0]] w fun e w'=>e= .returned (.tuple #[.agg bV.toArray, .int .i64 0])∧Below w.heap.size w w':=by
 have H0:=Lib.hid h
 have HXV:=Lib.hid hx
 have HVS:=Lib.hid hv
 have HGN:=Lib.hid hg
 clear h hx hv hg
 go_enter Tryz.func240,Tryz.ntmps240
 go_wp2_with (first
  |((with_reducible refine ai 55 (.tmp 1) [.int .i64 0, .int .i64 0] (some 3) ?hgd ?ho ?hd ?hx ?_);(case hgd|ho|hd|hx=>rfl);(intro b3 w1 l1 B1 e1 z1))
  |((with_reducible refine af 69 _ kV (some 4) ?hgd ?ho ?hd ?_);(case hgd|ho|hd=>rfl);(intro b4 w2 l2 B2 e2 z2))
  |fail)
 have hb2:Below w.heap.size w w2:=(e1.mono l1).trans (e2.mono (Nat.le_trans l1 (Nat.le_trans (Nat.le_of_lt z1) l2)))
 have HL4:=Lib.hid (show w.heap.size≤b4 from Nat.le_trans l1 (Nat.le_trans (Nat.le_of_lt z1) l2))
 have HV2:=Lib.hid (H0.out.below hb2)
 have HA2:=Lib.hid (B1.below e2 (Nat.lt_of_lt_of_le z1 l2))
 have HT2:=Lib.hid B2
 have HB2:=Lib.hid hb2
 clear B1 B2 e1 e2 l1 l2 z1 z2 hb2
 refine(eC i v _ HV2.out).mono ?_
 rintro e w' ⟨rfl,rfl⟩
 have a0:=HA2.out.cell (i:=0) rfl
 have a1:=HA2.out.cell (i:=1) rfl
 go_wp2_with fail
 refine(wY i v 0 _ HV2.out (by decide) h1).mono ?_
 rintro e w3 ⟨rfl,hb3⟩
 have HV3:=Lib.hid (HV2.out.below hb3)
 have HA3:=Lib.hid (HA2.out.below hb3 HA2.out.lt)
 have HT3:=Lib.hid (HT2.out.below hb3 HT2.out.lt)
 have HB3:=Lib.hid (HB2.out.trans (hb3.mono HB2.out.size))
 clear a0 a1 hb3
 have a0:=HA3.out.cell (i:=0) rfl
 go_wp2_with fail
 refine(vp i v 0 _ HV3.out h0 he).mono ?_
 rintro e w4 ⟨rfl,hb4⟩
 have HV4:=Lib.hid (HV3.out.below hb4)
 have HA4:=Lib.hid (HA3.out.below hb4 HA3.out.lt)
 have HT4:=Lib.hid (HT3.out.below hb4 HT3.out.lt)
 have HB4:=Lib.hid (HB3.out.trans (hb4.mono HB3.out.size))
 clear a0 hb4
 go_upto_region 8 with fail
 refine hb (fun w'=>w'.cell? ⟨i.vb,5,none⟩=some (.pointer (some ⟨i.bb,0,none⟩))∧w'.cell? ⟨b3,0,none⟩=some (.int .i64 0)) (⟨HV4.out.vol.drew.cell (i:=5) rfl,HA4.out.drew.cell (i:=0) rfl⟩) fun hHeld=> ?_
 obtain⟨wd,hwd⟩:∃wd,wd=w4.drew:=⟨_,rfl⟩
 have hbd:Below w4.heap.size w4 wd:=by rw[hwd];exact(Below.refl _ _).drew
 have HV5:=Lib.hid (HV4.out.below hbd)
 have HA5:=Lib.hid (HA4.out.below hbd HA4.out.lt)
 have HT5:=Lib.hid (HT4.out.below hbd HT4.out.lt)
 have HB5:=Lib.hid (HB4.out.trans (hbd.mono HB4.out.size))
 rw[←hwd]
 rw[←hwd]at hHeld
 clear hwd hbd
 refine hp 0 ?_
 refine hp 1 ?_
 refine hp 2 ?_
 refine hp 3 ?_
 refine hp 4 ?_
 refine hp 5 ?_
 refine hc 6 fun K hK=> ?_
 go_simp
 refine(mN i.bb i.c2 i.m1 i.m2 i.m3 _ v.first v.epoch 0 _ _ _ false _ HV5.out.book HV5.out.maps (by decide) (by decide) HGN.out).mono ?_
 rintro e w' ⟨rfl,rfl⟩
 (try go_wp2_with fail)
 refine hK.out _ _ (⟨HV5.out.vol.cell (i:=5) rfl,HA5.out.cell (i:=0) rfl⟩) fun _=> ?_
 clear hK K hHeld
 rename_i hHeld
 (try go_frame)
 refine hd ?_
 have a0:=HA5.out.cell (i:=0) rfl
 have a1:=HA5.out.cell (i:=1) rfl
 go_wp2_with fail
 refine(lY i v 0 _ HV5.out (by decide) (by decide) (by rw[HVS.out];rfl) (by rw[HVS.out];exact Nat.zero_le _)).mono ?_
 rintro e w6 ⟨⟨ps,B,rfl,hs⟩,hb6⟩
 have HS6:=Lib.hid hs
 have HV6:=Lib.hid (HV5.out.below hb6)
 have HA6:=Lib.hid (HA5.out.below hb6 HA5.out.lt)
 have HT6:=Lib.hid (HT5.out.below hb6 HT5.out.lt)
 have HB6:=Lib.hid (HB5.out.trans (hb6.mono HB5.out.size))
 clear a0 a1 hb6 hs
 have a1:=HA6.out.cell (i:=1) rfl
 go_wp2_with fail
 refine(rq ps B 0 0 _ HS6.out (by decide) (by decide)).mono ?_
 rintro e w7 ⟨rfl,hb7⟩
 have HV7:=Lib.hid (HV6.out.below hb7)
 have HA7:=Lib.hid (HA6.out.below hb7 HA6.out.lt)
 have HT7:=Lib.hid (HT6.out.below hb7 HT6.out.lt)
 have HB7:=Lib.hid (HB6.out.trans (hb7.mono HB6.out.size))
 clear a1 hb7
 have a0:=HA7.out.cell (i:=0) rfl
 have a1:=HA7.out.cell (i:=1) rfl
 go_upto_region 15 with(first
  |((with_reducible refine af 67 _ j6 (some 9) ?hgd ?ho ?hd ?_);(case hgd|ho|hd=>rfl);(intro b9 wa la Ba ea za))
  |((with_reducible refine ae 67 (.tmp 9) (.tmp 59) b9 du du 67 Ba rfl eZ kX ?hgd ?ho ?hx ?hy ?_);(case hgd|ho|hx|hy=>rfl);(intro wb Bb ob;have hbb:Below w7.heap.size w7 wb:=ob.below (ea.mono la) la;have a0:=(HA7.out.below hbb HA7.out.lt).cell (i:=0) rfl;have a1:=(HA7.out.below hbb HA7.out.lt).cell (i:=1) rfl))
  |((with_reducible refine ag 67 (.tmp 9) b9 0 (du) _ (some 62) (Bb.range) Tryz.underlying67 rfl eZ ?hg ?ho ?hds ?hx ?_);(case ho|hg|hds|hx=>rfl))
  |((with_reducible refine ao 69 ?parts bV ?hg ?ho ?hf ?_);(case hg|ho=>rfl);(case hf=>exact zU))
  |((with_reducible refine af 69 _ kV (some 11) ?hgd ?ho ?hd ?_);(case hgd|ho|hd=>rfl);(intro b11 wc lc Bc ec zc))
  |((with_reducible refine ae 69 (.tmp 11) (.tmp 63) b11 bV bV 69 Bc rfl eY mB ?hgd ?ho ?hx ?hy ?_);(case hgd|ho|hx|hy=>rfl);(intro w8 B8 o8))
  |fail)
 have hb8:Below w7.heap.size w7 w8:=hbb.trans ((o8.below (ec.mono lc) lc).mono hbb.size)
 have HV8:=Lib.hid (HV7.out.below hb8)
 have HA8:=Lib.hid (HA7.out.below hb8 HA7.out.lt)
 have HT8:=Lib.hid (HT7.out.below hb8 HT7.out.lt)
 have HB8:=Lib.hid (HB7.out.trans (hb8.mono HB7.out.size))
 have HO8:=Lib.hid B8
 clear Ba ea za la Bb ob hbb Bc ec zc lc B8 o8 hb8 a0 a1
 refine hb (fun w'=>w'.cell? ⟨i.vb,3,none⟩=some (.pointer (some ⟨i.xb,0,none⟩))∧w'.cell? ⟨b3,0,none⟩=some (.int .i64 0)∧w'.cell? ⟨b3,1,none⟩=some (.int .i64 0)) (⟨HV8.out.vol.drew.cell (i:=3) rfl,HA8.out.drew.cell (i:=0) rfl,HA8.out.drew.cell (i:=1) rfl⟩) fun hHeld=> ?_
 obtain⟨wd,hwd⟩:∃wd,wd=w8.drew:=⟨_,rfl⟩
 have hbd:Below w8.heap.size w8 wd:=by rw[hwd];exact(Below.refl _ _).drew
 have HV9:=Lib.hid (HV8.out.below hbd)
 have HA9:=Lib.hid (HA8.out.below hbd HA8.out.lt)
 have HT9:=Lib.hid (HT8.out.below hbd HT8.out.lt)
 have HB9:=Lib.hid (HB8.out.trans (hbd.mono HB8.out.size))
 have HO9:=Lib.hid (HO8.out.below hbd HO8.out.lt)
 rw[←hwd]
 rw[←hwd]at hHeld
 clear hwd hbd
 refine hp 0 ?_
 refine hp 1 ?_
 refine hp 2 ?_
 refine hp 3 ?_
 refine hp 4 ?_
 refine hp 5 ?_
 refine hp 6 ?_
 refine hp 7 ?_
 refine hc2 8 12 (fun K hK=> ?_) (fun K hK=> ?_)
 ·go_simp
  refine(vl i.xb px cx 0 0 _ (by have h9:=HV9.out.index;rw[HXV.out]at h9;exact h9)).mono ?_
  rintro e w10 ⟨rfl,hb10⟩
  have HV10:=Lib.hid (HV9.out.below hb10)
  have HA10:=Lib.hid (HA9.out.below hb10 HA9.out.lt)
  have HT10:=Lib.hid (HT9.out.below hb10 HT9.out.lt)
  have HB10:=Lib.hid (HB9.out.trans (hb10.mono HB9.out.size))
  have HO10:=Lib.hid (HO9.out.below hb10 HO9.out.lt)
  clear hb10
  (try go_wp2_with fail)
  refine hK.out _ _ (⟨HV10.out.vol.cell (i:=3) rfl,HA10.out.cell (i:=0) rfl,HA10.out.cell (i:=1) rfl⟩) fun _=> ?_
  clear hK K hHeld
  rename_i hHeld
  (try go_frame)
  refine hp 9 ?_
  refine hp 10 ?_
  refine hp 11 ?_
  refine hc 12 fun K hK=> ?_
  go_simp
  obtain⟨w11,hw11⟩:∃x,x=w10.alloc (.cells #[.int .i64 0, .int .i64 0, .int .i64 0] 171):=⟨_,rfl⟩
  obtain⟨q,hq⟩:∃q,q=w10.heap.size:=⟨_,rfl⟩
  rw[←hw11,←hq]
  have hb11:Below w10.heap.size w10 w11:=by rw[hw11];exact(Below.refl _ _).alloc (Nat.le_refl _) _
  have HQ11:=Lib.hid (show ac w11 q [.int .i64 0, .int .i64 0, .int .i64 0] 171 by rw[hw11,hq];exact ac.new _ _ _)
  have HL:=Lib.hid (show w.heap.size≤q by rw[hq];exact HB10.out.size)
  have HN1:=Lib.hid (show b4≠q by rw[hq];have:=HT10.out.lt;omega)
  have HN2:=Lib.hid (show b11≠q by rw[hq];have:=HO10.out.lt;omega)
  have HN3:=Lib.hid (show b3≠q by rw[hq];have:=HA10.out.lt;omega)
  have HN4:=Lib.hid (show i.vb≠q by rw[hq];have:=HV10.out.vol.lt;omega)
  have HV11:=Lib.hid (HV10.out.below hb11)
  have HA11:=Lib.hid (HA10.out.below hb11 HA10.out.lt)
  have HT11:=Lib.hid (HT10.out.below hb11 HT10.out.lt)
  have HB11:=Lib.hid (HB10.out.trans (hb11.mono HB10.out.size))
  have HO11:=Lib.hid (HO10.out.below hb11 HO10.out.lt)
  clear hb11 hw11 hq
  (try go_wp2_with fail)
  refine hK.out _ _ (⟨HV11.out.vol.cell (i:=3) rfl,HA11.out.cell (i:=0) rfl,HA11.out.cell (i:=1) rfl⟩) fun _=> ?_
  clear hK K hHeld
  rename_i hHeld
  (try go_frame)
  have k0:=HQ11.out.cell (i:=0) rfl
  have k1:=HQ11.out.cell (i:=1) rfl
  have k2:=HQ11.out.cell (i:=2) rfl
  have g0:=HQ11.out.free 0
  have g1:=HQ11.out.free 1
  have g2:=HQ11.out.free 2
  refine hc 13 fun K hK=> ?_
  simp only[aO.cells]
  go_simp
  have oz:bH q w11 (((w11.setCell ⟨q,0,none⟩ (.int .i64 0)).setCell ⟨q,1,none⟩ (.int .i64 0)).setCell ⟨q,2,none⟩ (.int .i64 0)):=(((bH.refl q w11).setCell 0 _).setCell 1 _).setCell 2 _
  clear k0 k1 k2 g0 g1 g2
  generalize(((w11.setCell ⟨q,0,none⟩ (.int .i64 0)).setCell ⟨q,1,none⟩ (.int .i64 0)).setCell ⟨q,2,none⟩ (.int .i64 0))=wz at oz ⊢
  have HOz:=Lib.hid (oz.blk HO11.out HN2.out)
  have HTz:=Lib.hid (oz.blk HT11.out HN1.out)
  have HAz:=Lib.hid (oz.blk HA11.out HN3.out)
  have HWz:=Lib.hid (oz.blk HV11.out.vol HN4.out)
  have HBz:=Lib.hid (oz.below HB11.out HL.out)
  clear oz
  (try go_wp2_with fail)
  refine hK.out _ _ (⟨HWz.out.cell (i:=3) rfl,HAz.out.cell (i:=0) rfl,HAz.out.cell (i:=1) rfl⟩) fun _=> ?_
  clear hK K hHeld
  rename_i hHeld
  (try go_frame)
  refine hp 14 ?_
  refine hd ?_
  go_wp2_with (first
   |((with_reducible refine ag 69 (.tmp 11) b11 0 (bV) _ (some 94) (HOz.out.range) Tryz.underlying69 rfl eY ?hg ?ho ?hds ?hx ?_);(case ho|hg|hds|hx=>rfl))
   |((with_reducible refine ae 69 (.tmp 4) (.tmp 94) b4 bV bV 69 HTz.out rfl eY mB ?hgd ?ho ?hx ?hy ?_);(case hgd|ho|hx|hy=>rfl);(intro wy By oy))
   |fail)
  (try simp only[Exit.inBlock,Exit.then]);refine bodyPost_ret (aL rfl _ _ By.range rfl Tryz.underlying69 rfl eY) rfl ⟨rfl,oy.below HBz.out HL4.out⟩
 ·go_simp
  obtain⟨w10,hw10⟩:∃x,x=wd.alloc (.cells #[.int .i64 0, .int .i64 0, .int .i64 0] 171):=⟨_,rfl⟩
  obtain⟨q,hq⟩:∃q,q=wd.heap.size:=⟨_,rfl⟩
  rw[←hw10,←hq]
  have hb10:Below wd.heap.size wd w10:=by rw[hw10];exact(Below.refl _ _).alloc (Nat.le_refl _) _
  have HQ10:=Lib.hid (show ac w10 q [.int .i64 0, .int .i64 0, .int .i64 0] 171 by rw[hw10,hq];exact ac.new _ _ _)
  have HL:=Lib.hid (show w.heap.size≤q by rw[hq];exact HB9.out.size)
  have HN1:=Lib.hid (show b4≠q by rw[hq];have:=HT9.out.lt;omega)
  have HN2:=Lib.hid (show b11≠q by rw[hq];have:=HO9.out.lt;omega)
  have HN3:=Lib.hid (show b3≠q by rw[hq];have:=HA9.out.lt;omega)
  have HN4:=Lib.hid (show i.vb≠q by rw[hq];have:=HV9.out.vol.lt;omega)
  have HV10:=Lib.hid (HV9.out.below hb10)
  have HA10:=Lib.hid (HA9.out.below hb10 HA9.out.lt)
  have HT10:=Lib.hid (HT9.out.below hb10 HT9.out.lt)
  have HB10:=Lib.hid (HB9.out.trans (hb10.mono HB9.out.size))
  have HO10:=Lib.hid (HO9.out.below hb10 HO9.out.lt)
  clear hb10 hw10 hq
  (try go_wp2_with fail)
  refine hK.out _ _ (⟨HV10.out.vol.cell (i:=3) rfl,HA10.out.cell (i:=0) rfl,HA10.out.cell (i:=1) rfl⟩) fun _=> ?_
  clear hK K hHeld
  rename_i hHeld
  (try go_frame)
  refine hc 8 fun K hK=> ?_
  go_simp
  refine(vl i.xb px cx 0 0 _ (by have h9:=HV10.out.index;rw[HXV.out]at h9;exact h9)).mono ?_
  rintro e w11 ⟨rfl,hb11⟩
  have HV11:=Lib.hid (HV10.out.below hb11)
  have HA11:=Lib.hid (HA10.out.below hb11 HA10.out.lt)
  have HT11:=Lib.hid (HT10.out.below hb11 HT10.out.lt)
  have HB11:=Lib.hid (HB10.out.trans (hb11.mono HB10.out.size))
  have HO11:=Lib.hid (HO10.out.below hb11 HO10.out.lt)
  have HQ11:=Lib.hid (HQ10.out.below hb11 HQ10.out.lt)
  clear hb11
  (try go_wp2_with fail)
  refine hK.out _ _ (⟨HV11.out.vol.cell (i:=3) rfl,HA11.out.cell (i:=0) rfl,HA11.out.cell (i:=1) rfl⟩) fun _=> ?_
  clear hK K hHeld
  rename_i hHeld
  (try go_frame)
  refine hp 9 ?_
  refine hp 10 ?_
  refine hp 11 ?_
  have k0:=HQ11.out.cell (i:=0) rfl
  have k1:=HQ11.out.cell (i:=1) rfl
  have k2:=HQ11.out.cell (i:=2) rfl
  have g0:=HQ11.out.free 0
  have g1:=HQ11.out.free 1
  have g2:=HQ11.out.free 2
  refine hc 13 fun K hK=> ?_
  simp only[aO.cells]
  go_simp
  have oz:bH q w11 (((w11.setCell ⟨q,0,none⟩ (.int .i64 0)).setCell ⟨q,1,none⟩ (.int .i64 0)).setCell ⟨q,2,none⟩ (.int .i64 0)):=(((bH.refl q w11).setCell 0 _).setCell 1 _).setCell 2 _
  clear k0 k1 k2 g0 g1 g2
  generalize(((w11.setCell ⟨q,0,none⟩ (.int .i64 0)).setCell ⟨q,1,none⟩ (.int .i64 0)).setCell ⟨q,2,none⟩ (.int .i64 0))=wz at oz ⊢
  have HOz:=Lib.hid (oz.blk HO11.out HN2.out)
  have HTz:=Lib.hid (oz.blk HT11.out HN1.out)
  have HAz:=Lib.hid (oz.blk HA11.out HN3.out)
  have HWz:=Lib.hid (oz.blk HV11.out.vol HN4.out)
  have HBz:=Lib.hid (oz.below HB11.out HL.out)
  clear oz
  (try go_wp2_with fail)
  refine hK.out _ _ (⟨HWz.out.cell (i:=3) rfl,HAz.out.cell (i:=0) rfl,HAz.out.cell (i:=1) rfl⟩) fun _=> ?_
  clear hK K hHeld
  rename_i hHeld
  (try go_frame)
  refine hp 14 ?_
  refine hd ?_
  go_wp2_with (first
   |((with_reducible refine ag 69 (.tmp 11) b11 0 (bV) _ (some 94) (HOz.out.range) Tryz.underlying69 rfl eY ?hg ?ho ?hds ?hx ?_);(case ho|hg|hds|hx=>rfl))
   |((with_reducible refine ae 69 (.tmp 4) (.tmp 94) b4 bV bV 69 HTz.out rfl eY mB ?hgd ?ho ?hx ?hy ?_);(case hgd|ho|hx|hy=>rfl);(intro wy By oy))
   |fail)
  (try simp only[Exit.inBlock,Exit.then]);refine bodyPost_ret (aL rfl _ _ By.range rfl Tryz.underlying69 rfl eY) rfl ⟨rfl,oy.below HBz.out HL4.out⟩
section
variable {α:Type} {c:α→List Value} {m:Nat}
theorem F6 (hm:∀x,(c x).length=m) (l:List α):∀(j:Nat) (x:α),l[j]?=some x→∀(i:Nat) (u:Value),(c x)[i]?=some u→(l.flatMap c)[j*m+i]?=some u:=by
 induction l with
 |nil=>intro j x h;simp at h
 |cons a r ih=>
  intro j x h i u hu
  rw[List.flatMap_cons]
  cases j with
  |zero=>
   simp at h
   subst h
   have hi:=(List.getElem?_eq_some_iff.1 hu).1
   rw[Nat.zero_mul,Nat.zero_add,List.getElem?_append_left hi]
   exact hu
  |succ j=>
   have:=ih j x (by simpa using h) i u hu
   rw[List.getElem?_append_right (by rw[hm,Nat.succ_mul];omega),hm,show(j+1)*m+i-m=j*m+i by rw[Nat.succ_mul];omega]
   exact this
theorem zV (hm:∀x,(c x).length=m) {w:World} {g:Nat} {l:List α} {z:List Value} {t:TypeId} (h:ac w g (l.flatMap c++z) t) {j:Nat} {x:α} (hx:l[j]?=some x):w.rangeAt g (j*m) (c x):=by
 intro i u hu
 have h1:=F6 hm l j x hx i u hu
 exact h.cell (by rw[List.getElem?_append_left (List.getElem?_eq_some_iff.1 h1).1];exact h1)
theorem Eo (hm:∀x,(c x).length=m) {w:World} {base n:Nat} {e:TypeId} {v:Value} {l:List α} (h:w.ownsRow base e m v n (l.flatMap c)) {j:Nat} {x:α} (hx:l[j]?=some x) (hp:0<n):∃g cap,v= .slice (some ⟨g,0,none⟩) n cap∧g<w.heap.size∧w.rangeAt g (j*m) (c x):=by
 obtain⟨g,cap,z,he,_,_,hk⟩:=dA h hp
 exact⟨g,cap,he,hk.lt,zV hm hk hx⟩
end
theorem fC.back {u w:World} {a b:Option Nat} (h:fC u a b) (hs:w.heap.size≤u.heap.size):fC w a b:=h.imp id (fun h k hk=>Nat.le_trans hs (h k hk))
theorem fC.or {u:World} {a b:Option Nat} (h:fC u a b):∀k,b=some k→a=some k∨u.heap.size≤k:=fun k hk=>h.elim (fun e=> .inl (by rw[←e];exact hk)) (fun f=> .inr (f k hk))
structure vq (w w':World) (b k:Nat) (cs:List Value) (t e:TypeId) (m:Nat) (lv:Value) (n:Nat) (xs:List Value):Prop where
 ex:∃lv',w'.ownsRow 0 e m lv' n xs∧ac w' b (cs.set k lv') t∧ab (b::lv.ownBlock.toList) w w'∧fC w lv.ownBlock lv'.ownBlock
section
variable {P:Program} {o:Oper} {a:Act} {w:World} {K:Act→World→Prop} {Q:Exit→Act→World→Prop}
theorem nr (ty:TypeId) (z:List Value) (hz:∀w,(zeroValue ty).run P w= .ok (.agg z.toArray) w) (ho:o.op= .alloc ty)
  (h:∀n w',w.heap.size≤n→ac w' n z ty→Below n w w'→n<w'.heap.size→K (a.put o.dst (.pointer (some ⟨n,0,none⟩))) w'):o.wp P a w K Q:=by
 unfold Oper.wp execOp
 simp only[ho,Instr.alloc,Sem.run_bind,hz,Result.andThen_ok,newVar,newRow,Value.cells,run_newObj,Sem.run_pure]
 exact h _ _ (Nat.le_refl _) (ac.new w z ty) ((Below.refl _ _).alloc (Nat.le_refl _) _) (by simp)
end
end Go.Proofs.YtngiibgdgenidaaGreat
