/- What a volume answers, and serves (chapter 29). A world sends what its verifier wants, and hands a letter over (chapter 31). A world hands a letter over (chapter 31). All letters are handed over, and a round (chapter 31). -/
import Derived.Test.YtngiibgdgenidaaGreatQ28
import Derived.Test.YtngiibgdgenidaaGreatQ31
import Derived.Test.YtngiibgdgenidaaGreatQ20
import Derived.Test.YtngiibgdgenidaaGreatQ30
set_option linter.unusedSimpArgs false
set_option linter.unusedVariables false
set_option maxRecDepth 100000
set_option maxHeartbeats 4000000
namespace Go.Proofs.YtngiibgdgenidaaGreat
open Go Go.RowKit Go.Maps Go.WideMaps
theorem ik (vb:Nat) (epoch:Int) (key:ByteArray):Tryz.prog.built 207 [(0, .pointer (some ⟨vb,0,none⟩)),(1, .int .i64 epoch),(2, .string key)]=some ([.pointer (some ⟨vb,0,none⟩), .int .i64 epoch, .string key]:List Value).toArray:=by kernel_rfl
theorem iU (w:World):(zeroValue 207).run Tryz.prog w= .ok (.agg ([.pointer none, .int .i64 0, .string ⟨#[]⟩]:List Value).toArray) w:=by kernel_rfl
theorem jx (vb:Nat) (epoch:Int) (key:ByteArray):∀x∈([.pointer (some ⟨vb,0,none⟩), .int .i64 epoch, .string key]:List Value),x.oneCell'=true:=by
 intro x hx;simp only[List.mem_cons,List.mem_nil_iff,or_false]at hx;rcases hx with rfl|rfl|rfl<;>rfl
theorem vF (i:aR) (v:bf) (m:aa) (Q:aa→Prop) (p1 p2:Option Addr) (c1 c2:Nat) (w:World) (h:aP w i v) (hk:v.key.size=32) (hkd:m.kind=1) (hok:aM m=true) (htm:bc m) (hto:m.told=ar.zero)
  (hF:∀wx:World,aP wx i v→Calls Tryz.prog 130 #[.agg ([.pointer (some ⟨i.vb,0,none⟩), .int .i64 v.epoch, .string v.key]:List Value).toArray,m.v (.slice p1 0 c1) (.slice p2 0 c2)] wx fun e w'=>(∃A:aa,e= .returned (.tuple #[A.v (.slice none 0 0) (.slice none 0 0), .bool true])∧Q A)∧Below wx.heap.size wx w'):
  Calls Tryz.prog 69 #[.pointer (some ⟨i.vb,0,none⟩),m.v (.slice p1 0 c1) (.slice p2 0 c2)] w fun e w'=>(∃A:aa,e= .returned (.tuple #[A.v (.slice none 0 0) (.slice none 0 0), .bool true])∧Q A)∧Below w.heap.size w w':=by
 have H0:=Lib.hid h
 have HKD:=Lib.hid hkd
 have HOK:=Lib.hid hok
 have HTM:=Lib.hid htm
 have HTO:=Lib.hid hto
 have HF:=Lib.hid hF
 have hmk:∀(fn:Fn) (first cap:Array Value) (w:World),(Instr.makeFunc fn first cap).run Tryz.prog w= .ok (.func fn first cap) w:=fun _ _ _ _=>rfl
 have ek:(v.key.toList==([]:List UInt8))=false:=by
  rw[pG];exact decide_eq_false (fun e=>by rw[e]at hk;cases hk)
 clear h hk hkd hok htm hto hF
 go_enter Tryz.func69,Tryz.ntmps69
 go_wp2_with (first
  |((with_reducible refine ai 73 (.tmp 1) (m.cells (.slice p1 0 c1) (.slice p2 0 c2)) (some 3) ?hgd ?ho ?hd ?hx ?_);(case hgd|ho|hd|hx=>rfl);(intro b3 w1 l1 B1 e1 z1))
  |((with_reducible refine af 73 _ cZ (some 4) ?hgd ?ho ?hd ?_);(case hgd|ho|hd=>rfl);(intro b4 w2 l2 B2 e2 z2))
  |fail)
 have L2:w.heap.size≤b4:=Nat.le_trans l1 (Nat.le_trans (Nat.le_of_lt z1) l2)
 have HX3:=Lib.hid (B1.below e2 (Nat.lt_of_lt_of_le z1 l2))
 have HX4:=Lib.hid B2
 have HL4:=Lib.hid L2
 have HB2:=Lib.hid ((e1.mono l1).trans (e2.mono L2))
 have HV2:=Lib.hid (H0.out.below HB2.out)
 clear B1 B2 e1 e2 z1 z2 l1 l2 L2
 refine(gR i.vb i.jb i.bb i.c2 i.m1 i.m2 i.m3 v.first v.epoch v.key v.data _ _ _ _ _ HV2.out.vol HV2.out.book).mono ?_
 rintro e w3 ⟨rfl,hw3⟩
 have hb3:Below w2.heap.size w2 w3:=by rw[hw3];exact(Below.refl _ _).drew
 clear hw3
 have HX3w:=Lib.hid (HX3.out.below hb3 HX3.out.lt)
 have HX4w:=Lib.hid (HX4.out.below hb3 HX4.out.lt)
 have HB3:=Lib.hid (HB2.out.trans (hb3.mono HB2.out.size))
 have HV3:=Lib.hid (HV2.out.below hb3)
 clear hb3
 go_wp2_with (first
  |((with_reducible refine ag 73 (.tmp 3) b3 0 (m.cells (.slice p1 0 c1) (.slice p2 0 c2)) _ (some 20) (HX3w.out.range) Tryz.underlying73 rfl ap ?hg ?ho ?hds ?hx ?_);(case ho|hg|hds|hx=>rfl))
  |fail)
 refine(dt m _ _ _ (by rw[HTO.out];exact .inl ⟨rfl,_,_,rfl⟩) (by rw[HTO.out];exact .inl ⟨rfl,_,_,rfl⟩) HTM.out).mono ?_
 rintro e w5 ⟨he,hb5⟩
 rw[gn HOK.out]at he
 subst he
 have HX3v:=Lib.hid (HX3w.out.below hb5 HX3w.out.lt)
 have HX4v:=Lib.hid (HX4w.out.below hb5 HX4w.out.lt)
 have HB5:=Lib.hid (HB3.out.trans (hb5.mono HB3.out.size))
 have HV5:=Lib.hid (HV3.out.below hb5)
 clear hb5
 go_upto_region 5 with(first
  |((with_reducible refine ao 207 ?parts ([.pointer (some ⟨i.vb,0,none⟩), .int .i64 v.epoch, .string v.key]:List Value) ?hg ?ho ?hf ?_);(case hg|ho=>rfl);(case hf=>exact(ik i.vb v.epoch v.key)))
  |((with_reducible refine af 207 _ iU (some 9) ?hgd ?ho ?hd ?_);(case hgd|ho|hd=>rfl);(intro b9 w6 l6 B6 e6 z6))
  |((with_reducible refine ae 207 (.tmp 9) (.tmp 28) b9 [.pointer none, .int .i64 0, .string ⟨#[]⟩] [.pointer (some ⟨i.vb,0,none⟩), .int .i64 v.epoch, .string v.key] 207 B6 rfl cC (jx _ _ _) ?hgd ?ho ?hx ?hy ?_);(case hgd|ho|hx|hy=>rfl);(intro w7 B7 o7))
  |fail)
 have hb7:Below w5.heap.size w5 w7:=o7.below (e6.mono l6) l6
 have HX9:=Lib.hid B7
 have HX3u:=Lib.hid (HX3v.out.below hb7 HX3v.out.lt)
 have HX4u:=Lib.hid (HX4v.out.below hb7 HX4v.out.lt)
 have HB7:=Lib.hid (HB5.out.trans (hb7.mono HB5.out.size))
 have HV7:=Lib.hid (HV5.out.below hb7)
 have x0:w7.cell? ⟨b3,0,none⟩=some (.int .i64 1):=by rw[←HKD.out];exact HX3u.out.cell (i:=0) rfl
 clear B6 e6 z6 l6 o7 B7 hb7
 go_wp2_with (first
  |((with_reducible refine ag 207 (.tmp 9) b9 0 ([.pointer (some ⟨i.vb,0,none⟩), .int .i64 v.epoch, .string v.key]) _ (some 29) (HX9.out.range) Tryz.underlying207 rfl cC ?hg ?ho ?hds ?hx ?_);(case ho|hg|hds|hx=>rfl))
  |((with_reducible refine ag 207 (.tmp 9) b9 0 ([.pointer (some ⟨i.vb,0,none⟩), .int .i64 v.epoch, .string v.key]) _ (some 35) (HX9.out.range) Tryz.underlying207 rfl cC ?hg ?ho ?hds ?hx ?_);(case ho|hg|hds|hx=>rfl))
  |((with_reducible refine ag 73 (.tmp 3) b3 0 (m.cells (.slice p1 0 c1) (.slice p2 0 c2)) _ (some 50) (HX3u.out.range) Tryz.underlying73 rfl ap ?hg ?ho ?hds ?hx ?_);(case ho|hg|hds|hx=>rfl))
  |fail)
 refine(HF.out _ HV7.out).mono ?_
 rintro e w8 ⟨⟨A,rfl,hQ⟩,hb8⟩
 have HQ:=Lib.hid hQ
 have HX4z:=Lib.hid (HX4u.out.below hb8 HX4u.out.lt)
 have HB8:=Lib.hid (HB7.out.trans (hb8.mono HB7.out.size))
 clear hb8 x0 hQ
 go_wp2_with (first
  |((with_reducible refine ae 73 (.tmp 4) (.tmp 52) b4 (aa.cells aa.zero (.slice none 0 0) (.slice none 0 0)) (A.cells (.slice none 0 0) (.slice none 0 0)) 73 HX4z.out rfl ap (dL _) ?hgd ?ho ?hx ?hy ?_);(case hgd|ho|hx|hy=>rfl);(intro w9 B9 o9))
  |fail)
 (try simp only[Exit.inBlock,Exit.then]);refine bodyPost_ret (aL rfl _ _ B9.range rfl Tryz.underlying73 rfl ap) rfl ⟨⟨A,rfl,HQ.out⟩,o9.below HB8.out HL4.out⟩
theorem vG (i:aR) (v:bf) (m:aa) (Q:aa→Prop) (p1 p2:Option Addr) (c1 c2:Nat) (w:World) (h:aP w i v) (hk:v.key.size=32) (hkd:m.kind=3) (hok:aM m=true) (htm:bc m) (hto:m.told=ar.zero)
  (hF:∀wx:World,aP wx i v→Calls Tryz.prog 131 #[.agg ([.pointer (some ⟨i.vb,0,none⟩), .int .i64 v.epoch, .string v.key]:List Value).toArray,m.v (.slice p1 0 c1) (.slice p2 0 c2)] wx fun e w'=>(∃A:aa,e= .returned (.tuple #[A.v (.slice none 0 0) (.slice none 0 0), .bool true])∧Q A)∧Below wx.heap.size wx w'):
  Calls Tryz.prog 69 #[.pointer (some ⟨i.vb,0,none⟩),m.v (.slice p1 0 c1) (.slice p2 0 c2)] w fun e w'=>(∃A:aa,e= .returned (.tuple #[A.v (.slice none 0 0) (.slice none 0 0), .bool true])∧Q A)∧Below w.heap.size w w':=by
 have H0:=Lib.hid h
 have HKD:=Lib.hid hkd
 have HOK:=Lib.hid hok
 have HTM:=Lib.hid htm
 have HTO:=Lib.hid hto
 have HF:=Lib.hid hF
 have hmk:∀(fn:Fn) (first cap:Array Value) (w:World),(Instr.makeFunc fn first cap).run Tryz.prog w= .ok (.func fn first cap) w:=fun _ _ _ _=>rfl
 have ek:(v.key.toList==([]:List UInt8))=false:=by
  rw[pG];exact decide_eq_false (fun e=>by rw[e]at hk;cases hk)
 clear h hk hkd hok htm hto hF
 go_enter Tryz.func69,Tryz.ntmps69
 go_wp2_with (first
  |((with_reducible refine ai 73 (.tmp 1) (m.cells (.slice p1 0 c1) (.slice p2 0 c2)) (some 3) ?hgd ?ho ?hd ?hx ?_);(case hgd|ho|hd|hx=>rfl);(intro b3 w1 l1 B1 e1 z1))
  |((with_reducible refine af 73 _ cZ (some 4) ?hgd ?ho ?hd ?_);(case hgd|ho|hd=>rfl);(intro b4 w2 l2 B2 e2 z2))
  |fail)
 have L2:w.heap.size≤b4:=Nat.le_trans l1 (Nat.le_trans (Nat.le_of_lt z1) l2)
 have HX3:=Lib.hid (B1.below e2 (Nat.lt_of_lt_of_le z1 l2))
 have HX4:=Lib.hid B2
 have HL4:=Lib.hid L2
 have HB2:=Lib.hid ((e1.mono l1).trans (e2.mono L2))
 have HV2:=Lib.hid (H0.out.below HB2.out)
 clear B1 B2 e1 e2 z1 z2 l1 l2 L2
 refine(gR i.vb i.jb i.bb i.c2 i.m1 i.m2 i.m3 v.first v.epoch v.key v.data _ _ _ _ _ HV2.out.vol HV2.out.book).mono ?_
 rintro e w3 ⟨rfl,hw3⟩
 have hb3:Below w2.heap.size w2 w3:=by rw[hw3];exact(Below.refl _ _).drew
 clear hw3
 have HX3w:=Lib.hid (HX3.out.below hb3 HX3.out.lt)
 have HX4w:=Lib.hid (HX4.out.below hb3 HX4.out.lt)
 have HB3:=Lib.hid (HB2.out.trans (hb3.mono HB2.out.size))
 have HV3:=Lib.hid (HV2.out.below hb3)
 clear hb3
 go_wp2_with (first
  |((with_reducible refine ag 73 (.tmp 3) b3 0 (m.cells (.slice p1 0 c1) (.slice p2 0 c2)) _ (some 20) (HX3w.out.range) Tryz.underlying73 rfl ap ?hg ?ho ?hds ?hx ?_);(case ho|hg|hds|hx=>rfl))
  |fail)
 refine(dt m _ _ _ (by rw[HTO.out];exact .inl ⟨rfl,_,_,rfl⟩) (by rw[HTO.out];exact .inl ⟨rfl,_,_,rfl⟩) HTM.out).mono ?_
 rintro e w5 ⟨he,hb5⟩
 rw[gn HOK.out]at he
 subst he
 have HX3v:=Lib.hid (HX3w.out.below hb5 HX3w.out.lt)
 have HX4v:=Lib.hid (HX4w.out.below hb5 HX4w.out.lt)
 have HB5:=Lib.hid (HB3.out.trans (hb5.mono HB3.out.size))
 have HV5:=Lib.hid (HV3.out.below hb5)
 clear hb5
 go_upto_region 5 with(first
  |((with_reducible refine ao 207 ?parts ([.pointer (some ⟨i.vb,0,none⟩), .int .i64 v.epoch, .string v.key]:List Value) ?hg ?ho ?hf ?_);(case hg|ho=>rfl);(case hf=>exact(ik i.vb v.epoch v.key)))
  |((with_reducible refine af 207 _ iU (some 9) ?hgd ?ho ?hd ?_);(case hgd|ho|hd=>rfl);(intro b9 w6 l6 B6 e6 z6))
  |((with_reducible refine ae 207 (.tmp 9) (.tmp 28) b9 [.pointer none, .int .i64 0, .string ⟨#[]⟩] [.pointer (some ⟨i.vb,0,none⟩), .int .i64 v.epoch, .string v.key] 207 B6 rfl cC (jx _ _ _) ?hgd ?ho ?hx ?hy ?_);(case hgd|ho|hx|hy=>rfl);(intro w7 B7 o7))
  |fail)
 have hb7:Below w5.heap.size w5 w7:=o7.below (e6.mono l6) l6
 have HX9:=Lib.hid B7
 have HX3u:=Lib.hid (HX3v.out.below hb7 HX3v.out.lt)
 have HX4u:=Lib.hid (HX4v.out.below hb7 HX4v.out.lt)
 have HB7:=Lib.hid (HB5.out.trans (hb7.mono HB5.out.size))
 have HV7:=Lib.hid (HV5.out.below hb7)
 have x0:w7.cell? ⟨b3,0,none⟩=some (.int .i64 3):=by rw[←HKD.out];exact HX3u.out.cell (i:=0) rfl
 clear B6 e6 z6 l6 o7 B7 hb7
 go_wp2_with (first
  |((with_reducible refine ag 207 (.tmp 9) b9 0 ([.pointer (some ⟨i.vb,0,none⟩), .int .i64 v.epoch, .string v.key]) _ (some 29) (HX9.out.range) Tryz.underlying207 rfl cC ?hg ?ho ?hds ?hx ?_);(case ho|hg|hds|hx=>rfl))
  |((with_reducible refine ag 207 (.tmp 9) b9 0 ([.pointer (some ⟨i.vb,0,none⟩), .int .i64 v.epoch, .string v.key]) _ (some 39) (HX9.out.range) Tryz.underlying207 rfl cC ?hg ?ho ?hds ?hx ?_);(case ho|hg|hds|hx=>rfl))
  |((with_reducible refine ag 73 (.tmp 3) b3 0 (m.cells (.slice p1 0 c1) (.slice p2 0 c2)) _ (some 50) (HX3u.out.range) Tryz.underlying73 rfl ap ?hg ?ho ?hds ?hx ?_);(case ho|hg|hds|hx=>rfl))
  |fail)
 refine(HF.out _ HV7.out).mono ?_
 rintro e w8 ⟨⟨A,rfl,hQ⟩,hb8⟩
 have HQ:=Lib.hid hQ
 have HX4z:=Lib.hid (HX4u.out.below hb8 HX4u.out.lt)
 have HB8:=Lib.hid (HB7.out.trans (hb8.mono HB7.out.size))
 clear hb8 x0 hQ
 go_wp2_with (first
  |((with_reducible refine ae 73 (.tmp 4) (.tmp 52) b4 (aa.cells aa.zero (.slice none 0 0) (.slice none 0 0)) (A.cells (.slice none 0 0) (.slice none 0 0)) 73 HX4z.out rfl ap (dL _) ?hgd ?ho ?hx ?hy ?_);(case hgd|ho|hx|hy=>rfl);(intro w9 B9 o9))
  |fail)
 (try simp only[Exit.inBlock,Exit.then]);refine bodyPost_ret (aL rfl _ _ B9.range rfl Tryz.underlying73 rfl ap) rfl ⟨⟨A,rfl,HQ.out⟩,o9.below HB8.out HL4.out⟩
theorem vH (i:aR) (v:bf) (m:aa) (Q:aa→Prop) (p1 p2:Option Addr) (c1 c2:Nat) (w:World) (h:aP w i v) (hk:v.key.size=32) (hkd:m.kind=5) (hok:aM m=true) (htm:bc m) (hto:m.told=ar.zero)
  (hF:∀wx:World,aP wx i v→Calls Tryz.prog 132 #[.agg ([.pointer (some ⟨i.vb,0,none⟩), .int .i64 v.epoch, .string v.key]:List Value).toArray,m.v (.slice p1 0 c1) (.slice p2 0 c2)] wx fun e w'=>(∃A:aa,e= .returned (.tuple #[A.v (.slice none 0 0) (.slice none 0 0), .bool true])∧Q A)∧Below wx.heap.size wx w'):
  Calls Tryz.prog 69 #[.pointer (some ⟨i.vb,0,none⟩),m.v (.slice p1 0 c1) (.slice p2 0 c2)] w fun e w'=>(∃A:aa,e= .returned (.tuple #[A.v (.slice none 0 0) (.slice none 0 0), .bool true])∧Q A)∧Below w.heap.size w w':=by
 have H0:=Lib.hid h
 have HKD:=Lib.hid hkd
 have HOK:=Lib.hid hok
 have HTM:=Lib.hid htm
 have HTO:=Lib.hid hto
 have HF:=Lib.hid hF
 have hmk:∀(fn:Fn) (first cap:Array Value) (w:World),(Instr.makeFunc fn first cap).run Tryz.prog w= .ok (.func fn first cap) w:=fun _ _ _ _=>rfl
 have ek:(v.key.toList==([]:List UInt8))=false:=by
  rw[pG];exact decide_eq_false (fun e=>by rw[e]at hk;cases hk)
 clear h hk hkd hok htm hto hF
 go_enter Tryz.func69,Tryz.ntmps69
 go_wp2_with (first
  |((with_reducible refine ai 73 (.tmp 1) (m.cells (.slice p1 0 c1) (.slice p2 0 c2)) (some 3) ?hgd ?ho ?hd ?hx ?_);(case hgd|ho|hd|hx=>rfl);(intro b3 w1 l1 B1 e1 z1))
  |((with_reducible refine af 73 _ cZ (some 4) ?hgd ?ho ?hd ?_);(case hgd|ho|hd=>rfl);(intro b4 w2 l2 B2 e2 z2))
  |fail)
 have L2:w.heap.size≤b4:=Nat.le_trans l1 (Nat.le_trans (Nat.le_of_lt z1) l2)
 have HX3:=Lib.hid (B1.below e2 (Nat.lt_of_lt_of_le z1 l2))
 have HX4:=Lib.hid B2
 have HL4:=Lib.hid L2
 have HB2:=Lib.hid ((e1.mono l1).trans (e2.mono L2))
 have HV2:=Lib.hid (H0.out.below HB2.out)
 clear B1 B2 e1 e2 z1 z2 l1 l2 L2
 refine(gR i.vb i.jb i.bb i.c2 i.m1 i.m2 i.m3 v.first v.epoch v.key v.data _ _ _ _ _ HV2.out.vol HV2.out.book).mono ?_
 rintro e w3 ⟨rfl,hw3⟩
 have hb3:Below w2.heap.size w2 w3:=by rw[hw3];exact(Below.refl _ _).drew
 clear hw3
 have HX3w:=Lib.hid (HX3.out.below hb3 HX3.out.lt)
 have HX4w:=Lib.hid (HX4.out.below hb3 HX4.out.lt)
 have HB3:=Lib.hid (HB2.out.trans (hb3.mono HB2.out.size))
 have HV3:=Lib.hid (HV2.out.below hb3)
 clear hb3
 go_wp2_with (first
  |((with_reducible refine ag 73 (.tmp 3) b3 0 (m.cells (.slice p1 0 c1) (.slice p2 0 c2)) _ (some 20) (HX3w.out.range) Tryz.underlying73 rfl ap ?hg ?ho ?hds ?hx ?_);(case ho|hg|hds|hx=>rfl))
  |fail)
 refine(dt m _ _ _ (by rw[HTO.out];exact .inl ⟨rfl,_,_,rfl⟩) (by rw[HTO.out];exact .inl ⟨rfl,_,_,rfl⟩) HTM.out).mono ?_
 rintro e w5 ⟨he,hb5⟩
 rw[gn HOK.out]at he
 subst he
 have HX3v:=Lib.hid (HX3w.out.below hb5 HX3w.out.lt)
 have HX4v:=Lib.hid (HX4w.out.below hb5 HX4w.out.lt)
 have HB5:=Lib.hid (HB3.out.trans (hb5.mono HB3.out.size))
 have HV5:=Lib.hid (HV3.out.below hb5)
 clear hb5
 go_upto_region 5 with(first
  |((with_reducible refine ao 207 ?parts ([.pointer (some ⟨i.vb,0,none⟩), .int .i64 v.epoch, .string v.key]:List Value) ?hg ?ho ?hf ?_);(case hg|ho=>rfl);(case hf=>exact(ik i.vb v.epoch v.key)))
  |((with_reducible refine af 207 _ iU (some 9) ?hgd ?ho ?hd ?_);(case hgd|ho|hd=>rfl);(intro b9 w6 l6 B6 e6 z6))
  |((with_reducible refine ae 207 (.tmp 9) (.tmp 28) b9 [.pointer none, .int .i64 0, .string ⟨#[]⟩] [.pointer (some ⟨i.vb,0,none⟩), .int .i64 v.epoch, .string v.key] 207 B6 rfl cC (jx _ _ _) ?hgd ?ho ?hx ?hy ?_);(case hgd|ho|hx|hy=>rfl);(intro w7 B7 o7))
  |fail)
 have hb7:Below w5.heap.size w5 w7:=o7.below (e6.mono l6) l6
 have HX9:=Lib.hid B7
 have HX3u:=Lib.hid (HX3v.out.below hb7 HX3v.out.lt)
 have HX4u:=Lib.hid (HX4v.out.below hb7 HX4v.out.lt)
 have HB7:=Lib.hid (HB5.out.trans (hb7.mono HB5.out.size))
 have HV7:=Lib.hid (HV5.out.below hb7)
 have x0:w7.cell? ⟨b3,0,none⟩=some (.int .i64 5):=by rw[←HKD.out];exact HX3u.out.cell (i:=0) rfl
 clear B6 e6 z6 l6 o7 B7 hb7
 go_wp2_with (first
  |((with_reducible refine ag 207 (.tmp 9) b9 0 ([.pointer (some ⟨i.vb,0,none⟩), .int .i64 v.epoch, .string v.key]) _ (some 29) (HX9.out.range) Tryz.underlying207 rfl cC ?hg ?ho ?hds ?hx ?_);(case ho|hg|hds|hx=>rfl))
  |((with_reducible refine ag 207 (.tmp 9) b9 0 ([.pointer (some ⟨i.vb,0,none⟩), .int .i64 v.epoch, .string v.key]) _ (some 43) (HX9.out.range) Tryz.underlying207 rfl cC ?hg ?ho ?hds ?hx ?_);(case ho|hg|hds|hx=>rfl))
  |((with_reducible refine ag 73 (.tmp 3) b3 0 (m.cells (.slice p1 0 c1) (.slice p2 0 c2)) _ (some 50) (HX3u.out.range) Tryz.underlying73 rfl ap ?hg ?ho ?hds ?hx ?_);(case ho|hg|hds|hx=>rfl))
  |fail)
 refine(HF.out _ HV7.out).mono ?_
 rintro e w8 ⟨⟨A,rfl,hQ⟩,hb8⟩
 have HQ:=Lib.hid hQ
 have HX4z:=Lib.hid (HX4u.out.below hb8 HX4u.out.lt)
 have HB8:=Lib.hid (HB7.out.trans (hb8.mono HB7.out.size))
 clear hb8 x0 hQ
 go_wp2_with (first
  |((with_reducible refine ae 73 (.tmp 4) (.tmp 52) b4 (aa.cells aa.zero (.slice none 0 0) (.slice none 0 0)) (A.cells (.slice none 0 0) (.slice none 0 0)) 73 HX4z.out rfl ap (dL _) ?hgd ?ho ?hx ?hy ?_);(case hgd|ho|hx|hy=>rfl);(intro w9 B9 o9))
  |fail)
 (try simp only[Exit.inBlock,Exit.then]);refine bodyPost_ret (aL rfl _ _ B9.range rfl Tryz.underlying73 rfl ap) rfl ⟨⟨A,rfl,HQ.out⟩,o9.below HB8.out HL4.out⟩
theorem vI (i:aR) (v:bf) (m:aa) (Q:aa→Prop) (p1 p2:Option Addr) (c1 c2:Nat) (w:World) (h:aP w i v) (hk:v.key.size=32) (hkd:m.kind=7) (hok:aM m=true) (htm:bc m) (hto:m.told=ar.zero)
  (hF:∀wx:World,aP wx i v→Calls Tryz.prog 133 #[.agg ([.pointer (some ⟨i.vb,0,none⟩), .int .i64 v.epoch, .string v.key]:List Value).toArray,m.v (.slice p1 0 c1) (.slice p2 0 c2)] wx fun e w'=>(∃A:aa,e= .returned (.tuple #[A.v (.slice none 0 0) (.slice none 0 0), .bool true])∧Q A)∧Below wx.heap.size wx w'):
  Calls Tryz.prog 69 #[.pointer (some ⟨i.vb,0,none⟩),m.v (.slice p1 0 c1) (.slice p2 0 c2)] w fun e w'=>(∃A:aa,e= .returned (.tuple #[A.v (.slice none 0 0) (.slice none 0 0), .bool true])∧Q A)∧Below w.heap.size w w':=by
 have H0:=Lib.hid h
 have HKD:=Lib.hid hkd
 have HOK:=Lib.hid hok
 have HTM:=Lib.hid htm
 have HTO:=Lib.hid hto
 have HF:=Lib.hid hF
 have hmk:∀(fn:Fn) (first cap:Array Value) (w:World),(Instr.makeFunc fn first cap).run Tryz.prog w= .ok (.func fn first cap) w:=fun _ _ _ _=>rfl
 have ek:(v.key.toList==([]:List UInt8))=false:=by
  rw[pG];exact decide_eq_false (fun e=>by rw[e]at hk;cases hk)
 clear h hk hkd hok htm hto hF
 go_enter Tryz.func69,Tryz.ntmps69
 go_wp2_with (first
  |((with_reducible refine ai 73 (.tmp 1) (m.cells (.slice p1 0 c1) (.slice p2 0 c2)) (some 3) ?hgd ?ho ?hd ?hx ?_);(case hgd|ho|hd|hx=>rfl);(intro b3 w1 l1 B1 e1 z1))
  |((with_reducible refine af 73 _ cZ (some 4) ?hgd ?ho ?hd ?_);(case hgd|ho|hd=>rfl);(intro b4 w2 l2 B2 e2 z2))
  |fail)
 have L2:w.heap.size≤b4:=Nat.le_trans l1 (Nat.le_trans (Nat.le_of_lt z1) l2)
 have HX3:=Lib.hid (B1.below e2 (Nat.lt_of_lt_of_le z1 l2))
 have HX4:=Lib.hid B2
 have HL4:=Lib.hid L2
 have HB2:=Lib.hid ((e1.mono l1).trans (e2.mono L2))
 have HV2:=Lib.hid (H0.out.below HB2.out)
 clear B1 B2 e1 e2 z1 z2 l1 l2 L2
 refine(gR i.vb i.jb i.bb i.c2 i.m1 i.m2 i.m3 v.first v.epoch v.key v.data _ _ _ _ _ HV2.out.vol HV2.out.book).mono ?_
 rintro e w3 ⟨rfl,hw3⟩
 have hb3:Below w2.heap.size w2 w3:=by rw[hw3];exact(Below.refl _ _).drew
 clear hw3
 have HX3w:=Lib.hid (HX3.out.below hb3 HX3.out.lt)
 have HX4w:=Lib.hid (HX4.out.below hb3 HX4.out.lt)
 have HB3:=Lib.hid (HB2.out.trans (hb3.mono HB2.out.size))
 have HV3:=Lib.hid (HV2.out.below hb3)
 clear hb3
 go_wp2_with (first
  |((with_reducible refine ag 73 (.tmp 3) b3 0 (m.cells (.slice p1 0 c1) (.slice p2 0 c2)) _ (some 20) (HX3w.out.range) Tryz.underlying73 rfl ap ?hg ?ho ?hds ?hx ?_);(case ho|hg|hds|hx=>rfl))
  |fail)
 refine(dt m _ _ _ (by rw[HTO.out];exact .inl ⟨rfl,_,_,rfl⟩) (by rw[HTO.out];exact .inl ⟨rfl,_,_,rfl⟩) HTM.out).mono ?_
 rintro e w5 ⟨he,hb5⟩
 rw[gn HOK.out]at he
 subst he
 have HX3v:=Lib.hid (HX3w.out.below hb5 HX3w.out.lt)
 have HX4v:=Lib.hid (HX4w.out.below hb5 HX4w.out.lt)
 have HB5:=Lib.hid (HB3.out.trans (hb5.mono HB3.out.size))
 have HV5:=Lib.hid (HV3.out.below hb5)
 clear hb5
 go_upto_region 5 with(first
  |((with_reducible refine ao 207 ?parts ([.pointer (some ⟨i.vb,0,none⟩), .int .i64 v.epoch, .string v.key]:List Value) ?hg ?ho ?hf ?_);(case hg|ho=>rfl);(case hf=>exact(ik i.vb v.epoch v.key)))
  |((with_reducible refine af 207 _ iU (some 9) ?hgd ?ho ?hd ?_);(case hgd|ho|hd=>rfl);(intro b9 w6 l6 B6 e6 z6))
  |((with_reducible refine ae 207 (.tmp 9) (.tmp 28) b9 [.pointer none, .int .i64 0, .string ⟨#[]⟩] [.pointer (some ⟨i.vb,0,none⟩), .int .i64 v.epoch, .string v.key] 207 B6 rfl cC (jx _ _ _) ?hgd ?ho ?hx ?hy ?_);(case hgd|ho|hx|hy=>rfl);(intro w7 B7 o7))
  |fail)
 have hb7:Below w5.heap.size w5 w7:=o7.below (e6.mono l6) l6
 have HX9:=Lib.hid B7
 have HX3u:=Lib.hid (HX3v.out.below hb7 HX3v.out.lt)
 have HX4u:=Lib.hid (HX4v.out.below hb7 HX4v.out.lt)
 have HB7:=Lib.hid (HB5.out.trans (hb7.mono HB5.out.size))
 have HV7:=Lib.hid (HV5.out.below hb7)
 have x0:w7.cell? ⟨b3,0,none⟩=some (.int .i64 7):=by rw[←HKD.out];exact HX3u.out.cell (i:=0) rfl
 clear B6 e6 z6 l6 o7 B7 hb7
 go_wp2_with (first
  |((with_reducible refine ag 207 (.tmp 9) b9 0 ([.pointer (some ⟨i.vb,0,none⟩), .int .i64 v.epoch, .string v.key]) _ (some 29) (HX9.out.range) Tryz.underlying207 rfl cC ?hg ?ho ?hds ?hx ?_);(case ho|hg|hds|hx=>rfl))
  |((with_reducible refine ag 207 (.tmp 9) b9 0 ([.pointer (some ⟨i.vb,0,none⟩), .int .i64 v.epoch, .string v.key]) _ (some 47) (HX9.out.range) Tryz.underlying207 rfl cC ?hg ?ho ?hds ?hx ?_);(case ho|hg|hds|hx=>rfl))
  |((with_reducible refine ag 73 (.tmp 3) b3 0 (m.cells (.slice p1 0 c1) (.slice p2 0 c2)) _ (some 50) (HX3u.out.range) Tryz.underlying73 rfl ap ?hg ?ho ?hds ?hx ?_);(case ho|hg|hds|hx=>rfl))
  |fail)
 refine(HF.out _ HV7.out).mono ?_
 rintro e w8 ⟨⟨A,rfl,hQ⟩,hb8⟩
 have HQ:=Lib.hid hQ
 have HX4z:=Lib.hid (HX4u.out.below hb8 HX4u.out.lt)
 have HB8:=Lib.hid (HB7.out.trans (hb8.mono HB7.out.size))
 clear hb8 x0 hQ
 go_wp2_with (first
  |((with_reducible refine ae 73 (.tmp 4) (.tmp 52) b4 (aa.cells aa.zero (.slice none 0 0) (.slice none 0 0)) (A.cells (.slice none 0 0) (.slice none 0 0)) 73 HX4z.out rfl ap (dL _) ?hgd ?ho ?hx ?hy ?_);(case hgd|ho|hx|hy=>rfl);(intro w9 B9 o9))
  |fail)
 (try simp only[Exit.inBlock,Exit.then]);refine bodyPost_ret (aL rfl _ _ B9.range rfl Tryz.underlying73 rfl ap) rfl ⟨⟨A,rfl,HQ.out⟩,o9.below HB8.out HL4.out⟩
theorem vJ {s:List UInt8} {M:aa} {e:Ending} {w:World} (h:yR s e w) (hs:s=dj M) (hM:aM M=true) (ht:M.told=ar.zero):∃(p1 p2:Option Addr) (c1 c2:Nat),e= .returned (.tuple #[M.v (.slice p1 0 c1) (.slice p2 0 c2), .int .i64 0]):=by
 subst hs
 have hr:=BS hM
 rcases h with⟨m,u,l,hT,rfl,hu,hl⟩|⟨hno,_⟩
 ·have hm:m=M:=by
   have h1:=hT.1
   rw[hr]at h1
   injection h1 with h1
   injection h1 with h1
   exact h1.symm
  subst hm
  obtain⟨p1,c1,h1⟩:=hu.shape
  obtain⟨p2,c2,h2⟩:=hl.shape
  rw[ht]at h1 h2
  exact⟨p1,p2,c1,c2,by rw[h1,h2];rfl⟩
 ·exact absurd ⟨hr,hM,rfl⟩ (hno M)
theorem vK (i:aR) (v:bf) (s:ByteArray) (M:aa) (Q:aa→Prop) (w:World) (h:aP w i v) (hs:ak s (dj M)) (hz:s.size≤1000000) (hM:aM M=true) (ht:M.told=ar.zero)
  (hQ:∀A,Q A→aM A=true∧bc A∧A.told=ar.zero)
  (hA:∀(p1 p2:Option Addr) (c1 c2:Nat) (wx:World),aP wx i v→Calls Tryz.prog 69 #[.pointer (some ⟨i.vb,0,none⟩),M.v (.slice p1 0 c1) (.slice p2 0 c2)] wx fun e w'=>(∃A:aa,e= .returned (.tuple #[A.v (.slice none 0 0) (.slice none 0 0), .bool true])∧Q A)∧Below wx.heap.size wx w'):
  Calls Tryz.prog 30 #[.pointer (some ⟨i.vb,0,none⟩), .string s] w fun e w'=>(∃(A:aa) (b:ByteArray),e= .returned (.tuple #[.string b, .bool true])∧ak b (dj A)∧Q A)∧Below w.heap.size w w':=by
 have H0:=Lib.hid h
 have HS:=Lib.hid hs
 have HM:=Lib.hid hM
 have HT:=Lib.hid ht
 have HQ:=Lib.hid hQ
 have HA:=Lib.hid hA
 clear h hs hM ht hQ hA
 go_enter Tryz.func30,Tryz.ntmps30
 go_wp2_with fail
 refine(oZ s _ hz).mono ?_
 rintro e w1 ⟨he,hb1⟩
 obtain⟨p1,p2,c1,c2,rfl⟩:=vJ he HS.out HM.out HT.out
 have HV1:=Lib.hid (H0.out.below hb1)
 have HB1:=Lib.hid hb1
 clear he hb1
 go_wp2_with (first
  |((with_reducible refine af 73 _ cZ (some 6) ?hgd ?ho ?hd ?_);(case hgd|ho|hd=>rfl);(intro b6 w2 l2 B2 e2 z2))
  |((with_reducible refine ae 73 (.tmp 6) (.tmp 14) b6 (aa.cells aa.zero (.slice none 0 0) (.slice none 0 0)) (M.cells (.slice p1 0 c1) (.slice p2 0 c2)) 73 B2 rfl ap (cr ⟨_,_,rfl⟩ ⟨_,_,rfl⟩) ?hgd ?ho ?hx ?hy ?_);(case hgd|ho|hx|hy=>rfl);(intro w3 B3 o3;have hb3:=o3.below (e2.mono l2) l2;have HV3:=Lib.hid (HV1.out.below hb3);have HB3:=Lib.hid (HB1.out.trans (hb3.mono HB1.out.size));have HX6:=Lib.hid B3;clear B2 e2 l2 z2 B3 o3 hb3))
  |((with_reducible refine ag 73 (.tmp 6) b6 0 (M.cells (.slice p1 0 c1) (.slice p2 0 c2)) _ (some 20) (HX6.out.range) Tryz.underlying73 rfl ap ?hg ?ho ?hds ?hx ?_);(case ho|hg|hds|hx=>rfl))
  |fail)
 refine(HA.out p1 p2 c1 c2 _ HV3.out).mono ?_
 rintro e w4 ⟨⟨A,rfl,hq⟩,hb4⟩
 have HQA:=Lib.hid hq
 have HOK:=Lib.hid (HQ.out A hq)
 have HB4:=Lib.hid (HB3.out.trans (hb4.mono HB3.out.size))
 clear hb4 hq
 go_wp2_with (first
  |((with_reducible refine af 73 _ cZ (some 8) ?hgd ?ho ?hd ?_);(case hgd|ho|hd=>rfl);(intro b8 w5 l5 B5 e5 z5))
  |((with_reducible refine ae 73 (.tmp 8) (.tmp 22) b8 (aa.cells aa.zero (.slice none 0 0) (.slice none 0 0)) (A.cells (.slice none 0 0) (.slice none 0 0)) 73 B5 rfl ap (dL _) ?hgd ?ho ?hx ?hy ?_);(case hgd|ho|hx|hy=>rfl);(intro w6 B6 o6;have hb6:=o6.below (e5.mono l5) l5;have HB6:=Lib.hid (HB4.out.trans (hb6.mono HB4.out.size));have HX8:=Lib.hid B6;clear B5 e5 l5 z5 B6 o6 hb6))
  |((with_reducible refine ag 73 (.tmp 8) b8 0 (A.cells (.slice none 0 0) (.slice none 0 0)) _ (some 27) (HX8.out.range) Tryz.underlying73 rfl ap ?hg ?ho ?hds ?hx ?_);(case ho|hg|hds|hx=>rfl))
  |fail)
 refine(qn A _ _ _ (by rw[HOK.out.2.2];exact aC.nil _ _) (by rw[HOK.out.2.2];exact aC.nil _ _) HOK.out.2.1).mono ?_
 rintro e w7 ⟨he,hb7⟩
 obtain⟨b,rfl,tb⟩:=he.yes HOK.out.1
 have TB:=Lib.hid tb
 have HB7:=Lib.hid (HB6.out.trans (hb7.mono HB6.out.size))
 clear he hb7 tb
 go_wp2_with fail
 go_ret2
 exact⟨⟨A,b,rfl,TB.out,HQA.out⟩,HB7.out⟩
structure bA (w w':World) (s:bL) (d d':ay) (nv:Value):Prop where
 at':bO w' s d' nv
 turned:ab (s.nb::d.foot s.xb) w w'
 foot:∀x,x∈d'.foot s.xb→x∈d.foot s.xb∨w.heap.size≤x
theorem bA.refl {w:World} {s:bL} {d:ay} {nv:Value} (h:bO w s d nv):bA w w s d d nv:=⟨h,ab.refl _ _,fun _ hx=> .inl hx⟩
theorem bA.trans {w1 w2 w3:World} {s:bL} {d d' d'':ay} {nv nv':Value} (h:bA w1 w2 s d d' nv) (k:bA w2 w3 s d' d'' nv'):bA w1 w3 s d d'' nv':=
 ⟨k.at',h.turned.on k.turned (fun x hx=>(List.mem_cons.1 hx).elim (fun e=> .inl (by simp[e])) (fun hm=>(h.foot x hm).imp (fun h1=>List.mem_cons_of_mem _ h1) id)),fun x hx=>(k.foot x hx).elim (fun h1=>h.foot x h1) (fun h1=> .inr (Nat.le_trans h.turned.size h1))⟩
theorem bA.below {w1 w2 w3:World} {s:bL} {d d':ay} {nv:Value} (h:bA w1 w2 s d d' nv) (hb:Below w2.heap.size w2 w3):bA w1 w3 s d d' nv:=
 ⟨h.at'.below hb,h.turned.trans (ab.of_below hb (Nat.le_refl _)),h.foot⟩
theorem bA.ahead {w1 w2 w3:World} {s:bL} {d d':ay} {nv:Value} (hb:Below w1.heap.size w1 w2) (h:bA w2 w3 s d d' nv):bA w1 w3 s d d' nv:=
 ⟨h.at',(ab.of_below hb (Nat.le_refl _)).trans h.turned,fun x hx=>(h.foot x hx).elim .inl (fun h1=> .inr (Nat.le_trans hb.size h1))⟩
theorem bA.net {w1 w2 w3:World} {s:bL} {d d':ay} {nv nv':Value} (h:bA w1 w2 s d d' nv) (t:ab [s.nb] w2 w3) (hn:dT w3 s.nb nv'):bA w1 w3 s d d' nv':=
 h.trans ⟨h.at'.netTo t hn,t.mono (by simp),fun _ hx=> .inl hx⟩
theorem bA.ver {w1 w2 w3:World} {s:bL} {d d' d'':ay} {nv:Value} (h:bA w1 w2 s d d' nv) (t:bW w2 w3 s.xb d' d''):bA w1 w3 s d d'' nv:=
 h.trans ⟨h.at'.to t,t.turned.mono (fun x hx=>List.mem_cons_of_mem _ hx),t.foot⟩
theorem nC:(Tryz.prog.info? 80).map (fun i=>(i.zero,i.size,i.bytes))=some (some (.agg (letter 0 ⟨#[]⟩).toArray),2,24):=iZ
def dW (M:aa):Prop:=aM M=true∧bc M∧M.told=ar.zero∧(dj M).length≤10000
theorem Ah (s:bL) (d:ay) (QM:aa→Prop) (p:Option Addr) (w:World) (h:bO w s d (.slice p 0 0)) (hQ:∀M,QM M→dW M)
  (hO:∀wx:World,bq wx s.xb d→Calls Tryz.prog 24 #[.pointer (some ⟨s.xb,0,none⟩)] wx fun e w'=>(∃M:aa,e= .returned (.tuple #[M.v (.slice none 0 0) (.slice none 0 0), .bool true])∧QM M)∧Below wx.heap.size wx w'):
  Calls Tryz.prog 11 #[.pointer (some ⟨s.wb,0,none⟩)] w fun e w'=>e= .returned (.int .i64 0)∧∃(M:aa) (nv:Value) (b:ByteArray),QM M∧ak b (dj M)∧bA w w' s d d nv∧i8 w' nv 0 b:=by
 have HH:=Lib.hid (bA.refl h)
 have HQ:=Lib.hid hQ
 have HO:=Lib.hid hO
 clear h hQ hO
 go_enter Tryz.func11,Tryz.ntmps11
 go_wp2_with fail
 refine(eE s d _ _ HH.out.at').mono ?_
 rintro e w' ⟨rfl,rfl⟩
 have c0:w'.cell? ⟨s.wb,7,none⟩=some (.pointer (some ⟨s.xb,0,none⟩)):=HH.out.at'.blk.cell (i:=7) rfl
 go_wp2_with fail
 refine(HO.out _ HH.out.at'.ver).mono ?_
 rintro e w1 ⟨⟨M,rfl,hq⟩,hb1⟩
 have HM:=Lib.hid hq
 have HS:=Lib.hid (HQ.out M hq)
 have H1:=Lib.hid (HH.out.below hb1)
 clear c0 hq hb1 HH
 go_wp2_with (first
  |((with_reducible refine af 73 _ cZ (some 3) ?hgd ?ho ?hd ?_);(case hgd|ho|hd=>rfl);(intro b3 w2 l2 B2 e2 z2))
  |((with_reducible refine ae 73 (.tmp 3) (.tmp 16) b3 (aa.cells aa.zero (.slice none 0 0) (.slice none 0 0)) (M.cells (.slice none 0 0) (.slice none 0 0)) 73 B2 rfl ap (dL _) ?hgd ?ho ?hx ?hy ?_);(case hgd|ho|hx|hy=>rfl);(intro w3 B3 o3;have hb3:=o3.below (e2.mono l2) l2;have H3:=Lib.hid (H1.out.below hb3);have HX3:=Lib.hid B3))
  |((with_reducible refine ag 73 (.tmp 3) b3 0 (M.cells (.slice none 0 0) (.slice none 0 0)) _ (some 21) (HX3.out.range) Tryz.underlying73 rfl ap ?hg ?ho ?hds ?hx ?_);(case ho|hg|hds|hx=>rfl))
  |fail)
 refine(qn M _ _ _ (by rw[HS.out.2.2.1];exact aC.nil _ _) (by rw[HS.out.2.2.1];exact aC.nil _ _) HS.out.2.1).mono ?_
 rintro e w4 ⟨he,hb4⟩
 obtain⟨b,rfl,tb⟩:=he.yes HS.out.1
 have TB:=Lib.hid tb
 have H4:=Lib.hid (H3.out.below hb4)
 clear he hb4 tb B2 e2 l2 z2 B3 o3 hb3 HX3 H1 H3
 go_wp2_with fail
 refine(mQ s d _ _ H4.out.at').mono ?_
 rintro e w5 ⟨rfl,rfl⟩
 go_wp2_with (first
  |((with_reducible refine ao 80 ?parts (letter 0 b) ?hg ?ho ?hf ?_);(case hg|ho=>rfl);(case hf=>exact(pn 0 b)))
  |((with_reducible refine bD 88 80 1 ?parts (letter 0 b) (.agg (letter 0 ⟨#[]⟩).toArray) 2 24 (some 32) Tryz.underlying88 nC (by omega) (by omega) ?hgd ?ho ?hd ?hf ?_);(case hgd|ho|hd=>rfl);(case hf=>kernel_rfl);(intro g6 w6 l6 B6 e6 z6))
  |fail)
 have HB6:=Lib.hid B6
 have H6:=Lib.hid (H4.out.below (e6.mono l6))
 clear B6 e6 l6 z6
 refine(qI s.nb g6 1 p 0 b _ H6.out.at'.net HB6.out (by decide) (by decide) (by rw[TB.out.size];exact HS.out.2.2.2)).mono ?_
 rintro e w7 ⟨⟨rfl,nv,hn,h1,hf⟩,ht⟩
 have H7:=Lib.hid (H6.out.net ht hn)
 have HN:=Lib.hid h1
 clear hn h1 hf ht
 go_wp2_with fail
 go_ret
 exact⟨rfl,M,nv,b,HM.out,TB.out,H7.out,HN.out⟩
theorem rA (s:bL) (d:ay) (M:aa) (QA:aa→Prop) (nv:Value) (b:ByteArray) (w:World) (h:bO w s d nv) (hn:i8 w nv 0 b) (hb:ak b (dj M)) (hM:dW M) (hQ:∀A,QA A→dW A)
  (hA:∀(p1 p2:Option Addr) (c1 c2:Nat) (wx:World),aP wx s.i s.v→Calls Tryz.prog 69 #[.pointer (some ⟨s.i.vb,0,none⟩),M.v (.slice p1 0 c1) (.slice p2 0 c2)] wx fun e w'=>(∃A:aa,e= .returned (.tuple #[A.v (.slice none 0 0) (.slice none 0 0), .bool true])∧QA A)∧Below wx.heap.size wx w'):
  Calls Tryz.prog 12 #[.pointer (some ⟨s.wb,0,none⟩), .int .i64 0] w fun e w'=>e= .returned (.int .i64 0)∧∃(A:aa) (nv':Value) (b':ByteArray),QA A∧ak b' (dj A)∧bA w w' s d d nv'∧i8 w' nv' 1 b':=by
 have HH:=Lib.hid (bA.refl h)
 have HN:=Lib.hid hn
 have TB:=Lib.hid hb
 have HM:=Lib.hid hM
 have HQ:=Lib.hid hQ
 have HA:=Lib.hid hA
 clear h hn hb hM hQ hA
 go_enter Tryz.func12,Tryz.ntmps12
 go_wp2_with fail
 refine(eE s d _ _ HH.out.at').mono ?_
 rintro e w' ⟨rfl,rfl⟩
 have c0:w'.cell? ⟨s.wb,0,none⟩=some (.pointer (some ⟨s.nb,0,none⟩)):=HH.out.at'.blk.cell (i:=0) rfl
 go_wp2_with fail
 refine(qJ s.nb nv 0 b _ HH.out.at'.net HN.out).mono ?_
 rintro e w1 ⟨⟨he,p,hn⟩,ht⟩
 have he':e= .returned (.tuple #[.agg #[.int .i64 0, .string b], .int .i64 0]):=he
 subst he'
 clear he
 have H1:=Lib.hid (HH.out.net ht hn)
 clear c0 hn ht HH HN
 go_upto_region 4 with(first
  |((with_reducible refine af 80 _ kf (some 5) ?hgd ?ho ?hd ?_);(case hgd|ho|hd=>rfl);(intro b5 w2 l2 B2 e2 z2;have c70:=B2.cell (i:=0) rfl;have c71:=B2.cell (i:=1) rfl;have f70:=B2.free 0;have f71:=B2.free 1))
  |fail)
 have HX3:=Lib.hid ((B2.set 0 (.int .i64 0)).set 1 (.string b))
 have o2:Below w1.heap.size w1 ((w2.setCell ⟨b5,0,none⟩ (.int .i64 0)).setCell ⟨b5,1,none⟩ (.string b)):=(((bH.refl b5 w2).setCell 0 _).setCell 1 _).below (e2.mono l2) l2
 generalize(w2.setCell ⟨b5,0,none⟩ (.int .i64 0)).setCell ⟨b5,1,none⟩ (.string b)=w3 at HX3 o2 ⊢
 have H3:=Lib.hid (H1.out.below o2)
 have x0:w3.cell? ⟨b5,0,none⟩=some (.int .i64 0):=HX3.out.cell (i:=0) rfl
 have x1:w3.cell? ⟨b5,1,none⟩=some (.string b):=HX3.out.cell (i:=1) rfl
 have c5:w3.cell? ⟨s.wb,5,none⟩=some (.pointer (some ⟨s.i.vb,0,none⟩)):=H3.out.at'.blk.cell (i:=5) rfl
 clear B2 e2 l2 z2 c70 c71 f70 f71 o2
 go_upto_region 13 with fail
 clear x0 x1 c5
 refine hb (fun w'=>w'.cell? ⟨s.wb,5,none⟩=some (.pointer (some ⟨s.i.vb,0,none⟩))∧w'.cell? ⟨b5,1,none⟩=some (.string b)) (⟨H3.out.at'.blk.drew.cell (i:=5) rfl,HX3.out.drew.cell (i:=1) rfl⟩) fun hHeld=> ?_
 obtain⟨w4,hw4⟩:∃x,x=w3.drew:=⟨_,rfl⟩
 have hb4:Below w3.heap.size w3 w4:=by rw[hw4];exact(Below.refl _ _).drew
 have H4:=Lib.hid (H3.out.below hb4)
 have HX4:=Lib.hid (HX3.out.below hb4 HX3.out.lt)
 rw[←hw4]
 rw[←hw4]at hHeld
 clear hw4 hb4
 refine hp 0 ?_
 refine hp 1 ?_
 refine hp 2 ?_
 refine hp 3 ?_
 refine hp 4 ?_
 refine hp 5 ?_
 refine hc 6 fun K hK=> ?_
 go_simp
 refine(vK s.i s.v b M QA _ H4.out.at'.vol TB.out (by rw[TB.out.size];have:=HM.out.2.2.2;omega) HM.out.1 HM.out.2.2.1 (fun A hA=>⟨(HQ.out A hA).1,(HQ.out A hA).2.1,(HQ.out A hA).2.2.1⟩) HA.out).mono ?_
 rintro e w5 ⟨⟨A,b',rfl,tb,hq⟩,hb5⟩
 have H5:=Lib.hid (H4.out.below hb5)
 have HX5:=Lib.hid (HX4.out.below hb5 HX4.out.lt)
 have TB':=Lib.hid tb
 have HQA:=Lib.hid hq
 clear hb5 tb hq
 (try go_wp2_with fail)
 refine hK.out _ _ (⟨H5.out.at'.blk.cell (i:=5) rfl,HX5.out.cell (i:=1) rfl⟩) fun _=> ?_
 clear hK K hHeld
 rename_i hHeld
 (try go_frame)
 refine hp 7 ?_
 refine hp 8 ?_
 refine hp 9 ?_
 refine hp 10 ?_
 refine hp 11 ?_
 refine hd ?_
 clear hHeld
 go_wp2_with fail
 refine(mQ s d _ _ H5.out.at').mono ?_
 rintro e w5' ⟨rfl,rfl⟩
 go_wp2_with (first
  |((with_reducible refine ao 80 ?parts (letter 1 b') ?hg ?ho ?hf ?_);(case hg|ho=>rfl);(case hf=>exact(pn 1 b')))
  |((with_reducible refine bD 88 80 1 ?parts (letter 1 b') (.agg (letter 0 ⟨#[]⟩).toArray) 2 24 (some 68) Tryz.underlying88 nC (by omega) (by omega) ?hgd ?ho ?hd ?hf ?_);(case hgd|ho|hd=>rfl);(case hf=>kernel_rfl);(intro g6 w6 l6 B6 e6 z6))
  |fail)
 have HB6:=Lib.hid B6
 have H6:=Lib.hid (H5.out.below (e6.mono l6))
 clear B6 e6 l6 z6
 refine(qI s.nb g6 1 p 1 b' _ H6.out.at'.net HB6.out (by decide) (by decide) (by rw[TB'.out.size];exact(HQ.out A HQA.out).2.2.2)).mono ?_
 rintro e w7 ⟨⟨rfl,nv',hn,h1,hf⟩,ht⟩
 have H7:=Lib.hid (H6.out.net ht hn)
 have HN:=Lib.hid h1
 clear hn h1 hf ht
 go_wp2_with fail
 go_ret
 exact⟨rfl,A,nv',b',HQA.out,TB'.out,H7.out,HN.out⟩
theorem rB (s:bL) (d:ay) (A:aa) (QD:ay→Prop) (nv:Value) (b:ByteArray) (w0:World) (h:bO w0 s d nv) (hn:i8 w0 nv 1 b) (hb:ak b (dj A)) (hM:dW A)
  (hI:∀(p1 p2:Option Addr) (c1 c2:Nat) (wx:World),bq wx s.xb d→Calls Tryz.prog 29 #[.pointer (some ⟨s.xb,0,none⟩),A.v (.slice p1 0 c1) (.slice p2 0 c2)] wx fun e w'=>e= .returned (.int .i64 0)∧∃d',bW wx w' s.xb d d'∧QD d'):
  Calls Tryz.prog 12 #[.pointer (some ⟨s.wb,0,none⟩), .int .i64 0] w0 fun e w'=>e= .returned (.int .i64 0)∧∃(d':ay) (p:Option Addr),QD d'∧bA w0 w' s d d' (.slice p 0 0):=by
 have HF0:=Lib.hid (show ∀x,x∈d.foot s.xb→x<w0.heap.size from h.ver.foot_lt)
 have HH:=Lib.hid (bA.refl h)
 have HN:=Lib.hid hn
 have TB:=Lib.hid hb
 have HM:=Lib.hid hM
 have HI:=Lib.hid hI
 clear h hn hb hM hI
 go_enter Tryz.func12,Tryz.ntmps12
 go_wp2_with fail
 refine(eE s d _ _ HH.out.at').mono ?_
 rintro e w' ⟨rfl,rfl⟩
 have c0:w'.cell? ⟨s.wb,0,none⟩=some (.pointer (some ⟨s.nb,0,none⟩)):=HH.out.at'.blk.cell (i:=0) rfl
 go_wp2_with fail
 refine(qJ s.nb nv 1 b _ HH.out.at'.net HN.out).mono ?_
 rintro e w1 ⟨⟨he,p,hn⟩,ht⟩
 have he':e= .returned (.tuple #[.agg #[.int .i64 1, .string b], .int .i64 0]):=he
 subst he'
 clear he
 have H1:=Lib.hid (HH.out.net ht hn)
 clear c0 hn ht HH HN
 go_upto_region 4 with(first
  |((with_reducible refine af 80 _ kf (some 5) ?hgd ?ho ?hd ?_);(case hgd|ho|hd=>rfl);(intro b5 w2 l2 B2 e2 z2;have c70:=B2.cell (i:=0) rfl;have c71:=B2.cell (i:=1) rfl;have f70:=B2.free 0;have f71:=B2.free 1))
  |fail)
 have HX3:=Lib.hid ((B2.set 0 (.int .i64 1)).set 1 (.string b))
 have o2:Below w1.heap.size w1 ((w2.setCell ⟨b5,0,none⟩ (.int .i64 1)).setCell ⟨b5,1,none⟩ (.string b)):=(((bH.refl b5 w2).setCell 0 _).setCell 1 _).below (e2.mono l2) l2
 generalize(w2.setCell ⟨b5,0,none⟩ (.int .i64 1)).setCell ⟨b5,1,none⟩ (.string b)=w3 at HX3 o2 ⊢
 have H3:=Lib.hid (H1.out.below o2)
 have x0:w3.cell? ⟨b5,0,none⟩=some (.int .i64 1):=HX3.out.cell (i:=0) rfl
 have x1:w3.cell? ⟨b5,1,none⟩=some (.string b):=HX3.out.cell (i:=1) rfl
 have c5:w3.cell? ⟨s.wb,5,none⟩=some (.pointer (some ⟨s.i.vb,0,none⟩)):=H3.out.at'.blk.cell (i:=5) rfl
 clear B2 e2 l2 z2 c70 c71 f70 f71 o2
 go_wp2_with fail
 clear x0 x1 c5
 refine(oZ b _ (by rw[TB.out.size];have:=HM.out.2.2.2;omega)).mono ?_
 rintro e w4 ⟨he,hb4⟩
 obtain⟨p1,p2,c1,c2,rfl⟩:=vJ he TB.out HM.out.1 HM.out.2.2.1
 have H4:=Lib.hid (H3.out.below hb4)
 clear he hb4
 go_upto_region 10 with(first
  |((with_reducible refine af 73 _ cZ (some 7) ?hgd ?ho ?hd ?_);(case hgd|ho|hd=>rfl);(intro b7 w5 l5 B5 e5 z5))
  |((with_reducible refine ae 73 (.tmp 7) (.tmp 35) b7 (aa.cells aa.zero (.slice none 0 0) (.slice none 0 0)) (A.cells (.slice p1 0 c1) (.slice p2 0 c2)) 73 B5 rfl ap (cr ⟨_,_,rfl⟩ ⟨_,_,rfl⟩) ?hgd ?ho ?hx ?hy ?_);(case hgd|ho|hx|hy=>rfl);(intro w6 B6 o6;have hb6:=o6.below (e5.mono l5) l5;have HL6:=Lib.hid (Nat.le_trans H4.out.turned.size l5);have H6:=Lib.hid (H4.out.below hb6);have HX6:=Lib.hid B6))
  |fail)
 clear B5 e5 l5 z5 B6 o6 hb6
 refine hb (fun w'=>w'.cell? ⟨s.wb,7,none⟩=some (.pointer (some ⟨s.xb,0,none⟩))∧w'.rangeAt b7 0 (A.cells (.slice p1 0 c1) (.slice p2 0 c2))) (⟨H6.out.at'.blk.drew.cell (i:=7) rfl,HX6.out.drew.range⟩) fun hHeld=> ?_
 obtain⟨w7,hw7⟩:∃x,x=w6.drew:=⟨_,rfl⟩
 have hb7:Below w6.heap.size w6 w7:=by rw[hw7];exact(Below.refl _ _).drew
 have H7:=Lib.hid (H6.out.below hb7)
 have HX7:=Lib.hid (HX6.out.below hb7 HX6.out.lt)
 have HL7:=Lib.hid HL6.out
 rw[←hw7]
 rw[←hw7]at hHeld
 clear hw7 hb7
 refine hp 0 ?_
 refine hp 1 ?_
 refine hp 2 ?_
 refine hp 3 ?_
 refine hl 4 73 b7 0 (A.cells (.slice p1 0 c1) (.slice p2 0 c2)) (fun w h=>h.2) Tryz.underlying73 ap ?_
 refine hc 5 fun K hK=> ?_
 go_simp
 refine(HI.out p1 p2 c1 c2 _ H7.out.at'.ver).mono ?_
 rintro e w8 ⟨rfl,d',hv,hq⟩
 have hn7:b7∉d.foot s.xb:=fun hm=>by have h1:=HF0.out b7 hm;have h2:=HL7.out;omega
 have HX8:=Lib.hid (hv.turned.blk HX7.out hn7)
 have H8:=Lib.hid (H7.out.ver hv)
 have HQD:=Lib.hid hq
 clear hv hq
 (try go_wp2_with fail)
 refine hK.out _ _ (⟨H8.out.at'.blk.cell (i:=7) rfl,HX8.out.range⟩) fun _=> ?_
 clear hK K hHeld
 rename_i hHeld
 (try go_frame)
 refine hp 6 ?_
 refine hd ?_
 clear hHeld
 go_wp2_with fail
 go_ret
 exact⟨rfl,d',p,HQD.out,H8.out⟩
def kD (nb:Nat) (w:World):Nat:=
 match w.cell? ⟨nb,1,none⟩with
 |some (.slice (some g) 1 _)=>(match w.cell? ⟨g.block,0,none⟩with|some (.int _ x)=>if x=0 then 2 else 1|_=>0)
 |_=>0
theorem lF {w:World} {nb:Nat} {v:Value} {b:ByteArray} {dst:Int} (hn:dT w nb v) (h:i8 w v dst b):kD nb w=if dst=0 then 2 else 1:=by
 have c1:w.cell? ⟨nb,1,none⟩=some v:=hn.cell (i:=1) rfl
 obtain⟨g,c,rfl⟩:∃g c,v= .slice (some ⟨g,0,none⟩) 1 c:=by
  rcases h.2 with⟨rfl,h0⟩|⟨g,cap,cur,rfl,_⟩
  ·cases h0
  ·exact⟨g,cap,rfl⟩
 have q0:w.cell? ⟨g,0,none⟩=some (.int .i64 dst):=World.ownsRow.cellAt h 0 (by decide)
 simp[kD,c1,q0]
theorem vL {w:World} {nb:Nat} {p:Option Addr} (hn:dT w nb (.slice p 0 0)):kD nb w=0:=by
 have c1:w.cell? ⟨nb,1,none⟩=some (.slice p 0 0):=hn.cell (i:=1) rfl
 simp[kD,c1]
theorem Ai (s:bL) (d:ay) (p:Option Addr) (rb:Nat) (w:World) (h:bO w s d (.slice p 0 0)) (hr:w.cell? ⟨rb,0,none⟩=some (.pointer (some ⟨s.wb,0,none⟩))) (hl:rb<w.heap.size) (hrn:rb∉s.nb::d.foot s.xb):
  Calls Tryz.prog 32 #[.pointer (some ⟨rb,0,none⟩)] w fun e w'=>e= .returned (.tuple #[])∧bA w w' s d d (.slice p 0 0):=by
 have HH:=Lib.hid (bA.refl h)
 clear h
 go_enter Tryz.func32,Tryz.ntmps32
 go_wp2_with fail
 go_loopw [6] (fun _ wr=>wr=w) (fun _ _=>0)
 case atStart=>rfl
 case round=>
  subst hrel
  have c0:wr.cell? ⟨s.wb,0,none⟩=some (.pointer (some ⟨s.nb,0,none⟩)):=HH.out.at'.blk.cell (i:=0) rfl
  go_wp2_with fail
  refine(sF p s.nb _ HH.out.at'.net).mono ?_
  rintro e w1 ⟨rfl,hb1⟩
  go_wp2_with fail
  go_end0
  exact⟨rfl,HH.out.below hb1⟩
def mF (s:bL) (d:ay) (M:aa) (QA:aa→Prop) (QD:ay→Prop) (w wr:World):Prop:=
 (∃nv b,bA w wr s d d nv∧i8 wr nv 0 b∧ak b (dj M))∨(∃A nv b,bA w wr s d d nv∧i8 wr nv 1 b∧ak b (dj A)∧QA A)∨(∃d' p,bA w wr s d d' (.slice p 0 0)∧QD d')
theorem mF.cell {s:bL} {d:ay} {M:aa} {QA:aa→Prop} {QD:ay→Prop} {w wr:World} (h:mF s d M QA QD w wr):ab (s.nb::d.foot s.xb) w wr:=by
 rcases h with⟨_,_,h,_⟩|⟨_,_,_,h,_⟩|⟨_,_,h,_⟩<;>exact h.turned
theorem CW (s:bL) (d:ay) (M:aa) (QA:aa→Prop) (QD:ay→Prop) (nv:Value) (b:ByteArray) (rb:Nat) (w:World) (h:bO w s d nv) (hn:i8 w nv 0 b) (hb:ak b (dj M)) (hM:dW M) (hQ:∀A,QA A→dW A)
  (hr:w.cell? ⟨rb,0,none⟩=some (.pointer (some ⟨s.wb,0,none⟩))) (hl:rb<w.heap.size) (hrn:rb∉s.nb::d.foot s.xb)
  (hA:∀(p1 p2:Option Addr) (c1 c2:Nat) (wx:World),aP wx s.i s.v→Calls Tryz.prog 69 #[.pointer (some ⟨s.i.vb,0,none⟩),M.v (.slice p1 0 c1) (.slice p2 0 c2)] wx fun e w'=>(∃A:aa,e= .returned (.tuple #[A.v (.slice none 0 0) (.slice none 0 0), .bool true])∧QA A)∧Below wx.heap.size wx w')
  (hI:∀(A:aa) (p1 p2:Option Addr) (c1 c2:Nat) (wx:World),QA A→bq wx s.xb d→Calls Tryz.prog 29 #[.pointer (some ⟨s.xb,0,none⟩),A.v (.slice p1 0 c1) (.slice p2 0 c2)] wx fun e w'=>e= .returned (.int .i64 0)∧∃d',bW wx w' s.xb d d'∧QD d'):
  Calls Tryz.prog 32 #[.pointer (some ⟨rb,0,none⟩)] w fun e w'=>e= .returned (.tuple #[])∧∃(d':ay) (p:Option Addr),QD d'∧bA w w' s d d' (.slice p 0 0):=by
 have HG:=Lib.hid (show mF s d M QA QD w w from .inl ⟨nv,b,bA.refl h,hn,hb⟩)
 have HM:=Lib.hid hM
 have HQ:=Lib.hid hQ
 have HA:=Lib.hid hA
 have HI:=Lib.hid hI
 have HR:=Lib.hid hr
 have HL:=Lib.hid hl
 have HRN:=Lib.hid hrn
 clear h hn hb hM hQ hA hI hr hl hrn
 go_enter Tryz.func32,Tryz.ntmps32
 go_wp2_with fail
 go_loopw [6] (fun _ wr=>Hid (mF s d M QA QD w wr)) (fun _ wr=>kD s.nb wr)
 case atStart=>exact HG
 case round=>
  have HRr:=Lib.hid (show wr.cell? ⟨rb,0,none⟩=some (.pointer (some ⟨s.wb,0,none⟩)) by rw[(mF.cell hrel.out).cell HL.out HRN.out];exact HR.out)
  rcases hrel.out with⟨nv,b,ht,h1,tb⟩|⟨A,nv,b,ht,h1,tb,hq⟩|⟨d',p,ht,hq⟩
  ·have HT:=Lib.hid ht
   have H1:=Lib.hid h1
   have TB:=Lib.hid tb
   have c0:wr.cell? ⟨s.wb,0,none⟩=some (.pointer (some ⟨s.nb,0,none⟩)):=HT.out.at'.blk.cell (i:=0) rfl
   have hr:=HRr.out
   clear hrel ht h1 tb
   go_wp2_with fail
   refine(sG nv 0 b s.nb _ HT.out.at'.net H1.out).mono ?_
   rintro e w1 ⟨rfl,hb1⟩
   have HT1:=Lib.hid (HT.out.below hb1)
   have H11:=Lib.hid (show i8 w1 nv 0 b from own_below hb1 H1.out)
   have hr1:w1.cell? ⟨rb,0,none⟩=some (.pointer (some ⟨s.wb,0,none⟩)):=by rw[HT1.out.turned.cell HL.out HRN.out];exact HR.out
   clear c0 hb1 hr
   go_wp2_with fail
   refine(rA s d M QA nv b _ HT1.out.at' H11.out TB.out HM.out HQ.out HA.out).mono ?_
   rintro e w2 ⟨rfl,A,nv',b',hq,tb',ht2,h12⟩
   have HM0:=Lib.hid (lF HT.out.at'.net H1.out)
   have HM2:=Lib.hid (lF ht2.at'.net h12)
   have HG2:=Lib.hid (show mF s d M QA QD w w2 from .inr (.inl ⟨A,nv',b',HT1.out.trans ht2,h12,tb',hq⟩))
   clear ht2 h12 tb' hq hr1
   go_wp2_with fail
   go_roundw
   case rel=>exact HG2
   case measure=>rw[HM0.out,HM2.out];decide
  ·have HT:=Lib.hid ht
   have H1:=Lib.hid h1
   have TB:=Lib.hid tb
   have HQA:=Lib.hid hq
   have c0:wr.cell? ⟨s.wb,0,none⟩=some (.pointer (some ⟨s.nb,0,none⟩)):=HT.out.at'.blk.cell (i:=0) rfl
   have hr:=HRr.out
   clear hrel ht h1 tb hq
   go_wp2_with fail
   refine(sG nv 1 b s.nb _ HT.out.at'.net H1.out).mono ?_
   rintro e w1 ⟨rfl,hb1⟩
   have HT1:=Lib.hid (HT.out.below hb1)
   have H11:=Lib.hid (show i8 w1 nv 1 b from own_below hb1 H1.out)
   have hr1:w1.cell? ⟨rb,0,none⟩=some (.pointer (some ⟨s.wb,0,none⟩)):=by rw[HT1.out.turned.cell HL.out HRN.out];exact HR.out
   clear c0 hb1 hr
   go_wp2_with fail
   refine(rB s d A QD nv b _ HT1.out.at' H11.out TB.out (HQ.out A HQA.out) (fun p1 p2 c1 c2 wx hx=>HI.out A p1 p2 c1 c2 wx HQA.out hx)).mono ?_
   rintro e w2 ⟨rfl,d',p,hq,ht2⟩
   have HM0:=Lib.hid (lF HT.out.at'.net H1.out)
   have HM2:=Lib.hid (vL ht2.at'.net)
   have HG2:=Lib.hid (show mF s d M QA QD w w2 from .inr (.inr ⟨d',p,HT1.out.trans ht2,hq⟩))
   clear ht2 hq hr1
   go_wp2_with fail
   go_roundw
   case rel=>exact HG2
   case measure=>rw[HM0.out,HM2.out];decide
  ·have HT:=Lib.hid ht
   have HQD:=Lib.hid hq
   have c0:wr.cell? ⟨s.wb,0,none⟩=some (.pointer (some ⟨s.nb,0,none⟩)):=HT.out.at'.blk.cell (i:=0) rfl
   have hr:=HRr.out
   clear hrel ht hq
   go_wp2_with fail
   refine(sF p s.nb _ HT.out.at'.net).mono ?_
   rintro e w1 ⟨rfl,hb1⟩
   have HT1:=Lib.hid (HT.out.below hb1)
   clear c0 hb1 hr
   go_wp2_with fail
   go_end0
   exact⟨rfl,d',p,HQD.out,HT1.out⟩
end Go.Proofs.YtngiibgdgenidaaGreat
