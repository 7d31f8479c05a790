/- A space's blocks, given out (chapter 13); how many there are (chapter 9). A journal within a volume (chapter 25): ready, Used, Room, Read, Append. Looks of a volume; Rerig and Rig over a new disk (chapter 26). AES as the program reckons it (chapter 5), in plain words. -/
import Derived.Test.YtgimkmclgjfddaaGreatQ10
import Derived.Deep.RegionHeld3
import Derived.Test.YtgimkmclgjfddaaGreatQ9
import Derived.Test.YtgimkmclgjfddaaGreatQ15
import Derived.Test.YtgimkmclgjfddaaGreatQ14
import Derived.Test.YtgimkmclgjfddaaGreatQ8
import Derived.OrdersHeld
import Derived.Lib.SliceRun
import Derived.Deep.DeepAppendWide
import Derived.Test.YtgimkmclgjfddaaGreatQ12
import Derived.Test.YtgimkmclgjfddaaGreatQ2
import Derived.Laws.IdiomCopy
import Derived.IntWalk
import Derived.Test.YtgimkmclgjfddaaGreatQ5
import Derived.Shelf.Strings.BuilderK
import Derived.Test.YtgimkmclgjfddaaGreatQ7
import Derived.Test.YtgimkmclgjfddaaGreatQ13
import Derived.StillTailTactics
import Derived.Carry
import Derived.Test.YtgimkmclgjfddaaGreatQ11
import Derived.StringKeys
set_option linter.unusedSimpArgs false
set_option linter.unusedVariables false
set_option maxRecDepth 100000
set_option maxHeartbeats 4000000
namespace Go.Proofs.YtgimkmclgjfddaaGreat
open Go Go.RowKit
theorem ni {w:World} {sb:Nat} {g:ay} {used:Int} {t:TypeId} (h:ab w sb (cn g used) t):w.rangeAt sb 0 g.cells:=by
 intro j v hv
 rw[Nat.zero_add]
 match j,hv with
 |0,hv=>simp[ay.cells]at hv;subst hv;exact h.cell (i:=0) rfl
 |1,hv=>simp[ay.cells]at hv;subst hv;exact h.cell (i:=1) rfl
 |2,hv=>simp[ay.cells]at hv;subst hv;exact h.cell (i:=2) rfl
 |j+3,hv=>simp[ay.cells]at hv
theorem lJ (sb:Nat) (g:ay) (used:Int) (w:World) (h:ab w sb (cn g used) 320) (hg:cM g):
  Calls Tryz.prog 142 #[.pointer (some ⟨sb,0,none⟩)] w fun e w'=>e= .returned (.bool (decide (used<g.blocks-4)))∧Below w.heap.size w w':=by
 go_enter Tryz.func142,Tryz.ntmps142
 go_wp2_with fail
 refine wp_region_held_drew (S:=fun wx=>wx.rangeAt sb 0 g.cells∧wx.cell? ⟨sb,3,none⟩=some (.int .i64 used)) (by kernel_rfl) (⟨ni h.drew,h.drew.cell (i:=3) rfl⟩) (fun hHeld=> ?_)
 refine hp 0 ?_
 refine wpAnyH_ready (rs:=[1]) (by kernel_rfl) (by simp) ?_
 refine AllReadyH.cons rfl (fun K hK=> ?_) AllReadyH.nil
 go_simp
 refine(iy sb g used _ h.drew hg).mono ?_
 rintro e w' ⟨rfl,rfl⟩
 (try go_wp2_with fail)
 refine hK.out _ _ (⟨ni h.drew,h.drew.cell (i:=3) rfl⟩) (fun hHeld2=> ?_)
 clear hK K hHeld
 have hHeld:=hHeld2
 clear hHeld2
 (try go_frame)
 refine hp 2 ?_
 refine hp 3 ?_
 refine hp 4 ?_
 refine hp 5 ?_
 refine hp 6 ?_
 refine hp 7 ?_
 refine hp 8 ?_
 refine hp 9 ?_
 refine wpAnyH_take (i:=10) (v:= .agg (g.cells).toArray) rfl (by kernel_rfl) (by kernel_rfl) (by kernel_rfl) (fun _ _ _ h=>h) (yieldsIf_load_mid (by rfl) 69 (.tmp 12) rfl sb 0 rfl (g.cells) _ (fun w h=>h.1) Tryz.underlying69 rfl bu) (by assumption) ?_
 (try go_frame)
 refine wpAnyH_ready (rs:=[11]) (by kernel_rfl) (by simp) ?_
 refine AllReadyH.cons rfl (fun K hK=> ?_) AllReadyH.nil
 go_simp
 refine(gZ g _ hg).mono ?_
 rintro e wa ⟨rfl,hba⟩
 have HBa:=Lib.hid hba
 have HSa:=Lib.hid (h.drew.below hba h.drew.lt)
 clear hba
 (try go_wp2_with fail)
 refine hK.out _ _ (⟨ni HSa.out,HSa.out.cell (i:=3) rfl⟩) (fun hHeld2=> ?_)
 clear hK K hHeld
 have hHeld:=hHeld2
 clear hHeld2
 (try go_frame)
 refine hp 12 ?_
 refine hp 13 ?_
 refine hp 14 ?_
 refine wpAnyH_done (by kernel_rfl) ?_ _
 clear hHeld
 go_wp2_with fail
 go_ret
 first
  |exact⟨rfl,(Below.refl _ _).drew.trans HBa.out⟩
  |exact⟨bp (by simp),(Below.refl _ _).drew.trans HBa.out⟩
theorem pR (sb:Nat) (g:ay) (used:Int) (w:World) (h:ab w sb (cn g used) 320) (hg:cM g) (h0:0≤used) (h1:used<g.blocks-4):
  Calls Tryz.prog 327 #[.pointer (some ⟨sb,0,none⟩), .func (.func 142) #[.pointer (some ⟨sb,0,none⟩)] #[], .int .i64 6] w fun e w'=>(e= .returned (.tuple #[.int .i64 used, .int .i64 0])∧ab w' sb (cn g (used+1)) 320)∧aa [sb] w w':=by
 have hb1:=hg.b1
 have hu:used≤1024:=by omega
 have hu1:used+1-1=used:=by omega
 go_enter Tryz.func327,Tryz.ntmps327
 go_wp2_with fail
 refine(iy sb g used _ h hg).mono ?_
 rintro e w' ⟨rfl,rfl⟩
 go_wp2_with fail
 refine((lJ sb g used _ h hg).mono (fun e w' hh=>show e= .returned (.bool true)∧Below _ _ w' from⟨by rw[hh.1,decide_eq_true h1],hh.2⟩)).mono ?_
 rintro e w1 ⟨rfl,hb⟩
 have h2:=h.below hb h.lt
 have c3:=h2.cell (i:=3) rfl
 have f3:=h2.free 3
 have HB:=Lib.hid hb
 have H2:=Lib.hid h2
 clear hb h2
 go_wp2_with fail
 go_ret2
 refine⟨⟨?_,(H2.out.set 3 _).ext rfl⟩,(aa.of_below HB.out (Nat.le_refl _)).trans ((aa.refl _ _).setCell (.inl (by simp)) 3 _)⟩
 first|rfl|(rw[hu1])
theorem pS (sb:Nat) (g:ay) (used:Int) (w:World) (h:ab w sb (cn g used) 320) (hg:cM g) (h0:0≤used) (h1:used<g.blocks-4):
  Calls Tryz.prog 261 #[.pointer (some ⟨sb,0,none⟩)] w fun e w'=>(e= .returned (.tuple #[.int .i64 used, .int .i64 0])∧ab w' sb (cn g (used+1)) 320)∧aa [sb] w w':=by
 have hmf:∀(fn:Fn) (first cap:Array Value) (w:World),(Instr.makeFunc fn first cap).run Tryz.prog w= .ok (.func fn first cap) w:=fun _ _ _ _=>rfl
 go_enter Tryz.func261,Tryz.ntmps261
 go_wp2_with fail
 refine(pR sb g used _ h hg h0 h1).mono ?_
 rintro e w1 ⟨⟨rfl,hb⟩,ht⟩
 go_wp2_with fail
 go_ret2
 exact⟨⟨rfl,hb⟩,ht⟩
structure iC (v:bk):Prop where
 sup:fS v.last
 u0:0≤v.used
 u1:v.used≤v.last.geo.blocks-4
 calm:Calm v.d v.last.geo.blocks.toNat v.used.toNat
theorem iC.few {v:bk} (h:iC v):v.used.toNat≤1020:=by have:=h.u1;have:=h.sup.geo.b1;omega
theorem iC.blocks {v:bk} (h:iC v):v.last.geo.blocks.toNat≤1024:=by have:=h.sup.geo.b1;omega
theorem wQ (i:aV) (v:bk) (w:World) (h:bA w i v):
  Calls Tryz.prog 243 #[.pointer (some ⟨i.jb,0,none⟩)] w fun e w'=>e= .returned (.int .i64 0)∧w=w':=by
 have c1:=h.jour.cell (i:=1) rfl
 have c9:w.cell? ⟨i.jb,9,none⟩=some (.bool false):=h.jour.cell (i:=9) rfl
 go_enter Tryz.func243,Tryz.ntmps243
 go_wp2_with fail
 go_ret
 exact⟨rfl,rfl⟩
theorem rD (vb jb bb:Nat) (key data:ByteArray) (xv sv cv rv:Value) (w:World) (h:ab w vb [.pointer (some ⟨jb,0,none⟩), .string key, .string data,xv,sv, .pointer (some ⟨bb,0,none⟩),cv,rv] 50):
  Calls Tryz.prog 36 #[.pointer (some ⟨vb,0,none⟩)] w fun e w'=>e= .returned (.bool true)∧w=w':=by
 have c0:=h.cell (i:=0) rfl
 have c5:=h.cell (i:=5) rfl
 go_enter Tryz.func36,Tryz.ntmps36
 go_wp2_with fail
 go_ret
 exact⟨rfl,rfl⟩
theorem wR (vb jb bb c2 m1 m2 m3:Nat) (first epoch:Int) (key data:ByteArray) (xv sv cv rv:Value) (w:World) (h:ab w vb [.pointer (some ⟨jb,0,none⟩), .string key, .string data,xv,sv, .pointer (some ⟨bb,0,none⟩),cv,rv] 50) (hb:ab w bb (bD c2 first epoch m1 m2 m3) 167):
  Calls Tryz.prog 15 #[.pointer (some ⟨vb,0,none⟩)] w fun e w'=>e= .returned (.tuple #[.int .i64 epoch, .string key, .string data])∧w'=w.drew:=by
 go_enter Tryz.func15,Tryz.ntmps15
 go_wp2_with fail
 refine(rD vb jb bb key data xv sv cv rv _ h).mono ?_
 rintro e w' ⟨rfl,rfl⟩
 go_wp2_with fail
 refine wp_region_held_drew (S:=fun wx=>wx.cell? ⟨vb,5,none⟩=some (.pointer (some ⟨bb,0,none⟩))∧wx.cell? ⟨vb,1,none⟩=some (.string key)∧wx.cell? ⟨vb,2,none⟩=some (.string data)) (by kernel_rfl) (⟨h.drew.cell (i:=5) rfl,h.drew.cell (i:=1) rfl,h.drew.cell (i:=2) rfl⟩) (fun hHeld=> ?_)
 refine hp 0 ?_
 refine hp 1 ?_
 refine hp 2 ?_
 refine hp 3 ?_
 refine hp 5 ?_
 refine hp 6 ?_
 refine hp 7 ?_
 refine hp 8 ?_
 refine hp 9 ?_
 refine hp 10 ?_
 refine hp 11 ?_
 refine hp 12 ?_
 refine wpAnyH_ready (rs:=[4]) (by kernel_rfl) (by simp) ?_
 refine AllReadyH.cons rfl (fun K hK=> ?_) AllReadyH.nil
 go_simp
 refine(jd bb c2 first epoch m1 m2 m3 _ hb.drew).mono ?_
 rintro e w' ⟨rfl,rfl⟩
 (try go_wp2_with fail)
 refine hK.out _ _ (⟨h.drew.cell (i:=5) rfl,h.drew.cell (i:=1) rfl,h.drew.cell (i:=2) rfl⟩) (fun hHeld2=> ?_)
 clear hK K hHeld
 have hHeld:=hHeld2
 clear hHeld2
 (try go_frame)
 refine hp 13 ?_
 refine hp 14 ?_
 refine hp 15 ?_
 refine wpAnyH_done (by kernel_rfl) ?_ _
 clear hHeld
 go_wp2_with fail
 (try simp only[Exit.inBlock,Exit.then]);refine bodyPost_ret (results_tmp3 rfl _ _ _) rfl ⟨rfl,rfl⟩
theorem wS (n:Nat) (v:Value) (i:Nat) (kb q:ByteArray) (h:2≤n):(bO n v i kb q).shown 1=q:=by
 show(((List.replicate n ch).set i kb).set 1 q).getD 1 ByteArray.empty=q
 rw[List.getD,List.getElem?_set_self (by simp;omega)]
 rfl
theorem oD (n:Nat) (v:Value) (i:Nat) (kb q:ByteArray) (h:i<n) (h1:i≠1):(bO n v i kb q).shown (i:Int)=kb:=by
 show(((List.replicate n ch).set i kb).set 1 q).getD i ByteArray.empty=kb
 rw[List.getD,List.getElem?_set_ne (by omega),List.getElem?_set_self (by simp;omega)]
 rfl
theorem jm (n:Nat) (v:Value) (i j:Nat) (kb q:ByteArray) (h:j<n) (h1:j≠1) (h2:j≠i):(bO n v i kb q).shown (j:Int)=(⟨(List.replicate 4096 0).toArray⟩:ByteArray):=by
 show(((List.replicate n ch).set i kb).set 1 q).getD j ByteArray.empty=ch
 rw[List.getD,List.getElem?_set_ne (by omega),List.getElem?_set_ne (by omega)]
 simp[h]
theorem uw (n:Nat) (v:Value) (i:Nat) (kb q:ByteArray):(bO n v i kb q).bs.length=n:=by
 show(((List.replicate n ch).set i kb).set 1 q).length=n
 simp
theorem uy {n ep:Nat} {lbas:Int} (hg:cM ⟨(n:Int),lbas,(ep:Int)⟩):fS (⟨1,((0:Nat):Int),(ep:Int),0,⟨(n:Int),lbas,(ep:Int)⟩⟩:aE):=by
 have h8:=hg.b0
 have h1:=hg.f1
 simp only at h8 h1
 refine⟨hg, ?_, ?_, ?_, ?_, ?_, ?_, ?_, ?_⟩<;>(try simp only)<;>omega
theorem yW (db n ep:Nat) (lbas:Int) (v:Value) (key kb q:ByteArray) (hg:cM ⟨(n:Int),lbas,(ep:Int)⟩) (hk:key.size=32) (tk:aj kb (eX (ep:Int) key.data.toList)) (tq:aj q (eb ⟨1,0,ep,0,⟨(n:Int),lbas,(ep:Int)⟩⟩)):
  ∀wx,aD wx db (bO n v (2+ep % 2) kb q)→Calls Tryz.prog 314 #[.pointer (some ⟨db,0,none⟩)] wx fun e w'=>e= .returned (.tuple #[(⟨1,((0:Nat):Int),(ep:Int),0,⟨(n:Int),lbas,(ep:Int)⟩⟩:aE).v, .string key, .int .i64 0])∧Below wx.heap.size wx w':=by
 intro wx hx
 have h8:8≤n:=by have:=hg.b0;simp only at this;omega
 have h9:n≤1024:=by have:=hg.b1;simp only at this;omega
 have hl:=uw n v (2+ep % 2) kb q
 refine yP db _ ⟨1,((0:Nat):Int),(ep:Int),0,⟨(n:Int),lbas,(ep:Int)⟩⟩ ep key wx hx rfl (Nat.zero_le _) (by rw[hl];exact h9) (by rw[hl];omega) (uy hg) rfl (by rw[hl]) (jm n v _ 0 kb q (by omega) (by omega) (by omega)) ?_ hk ?_
 ·rw[wS n v _ kb q (by omega)];exact tq
 ·by_cases hp:ep % 2=0
  ·have e2:(bO n v (2+ep % 2) kb q).shown 2=kb:=by have:=oD n v (2+ep % 2) kb q (by omega) (by omega);rw[hp]at this ⊢;exact this
   simp only[hp,if_true]
   rw[hp]at e2
   rw[e2];exact tk
  ·have h1:ep % 2=1:=by omega
   have e2:(bO n v (2+ep % 2) kb q).shown 3=kb:=by have:=oD n v (2+ep % 2) kb q (by omega) (by omega);rw[h1]at this ⊢;exact this
   rw[if_neg hp]
   rw[e2];exact tk
theorem yX (n ep:Nat) (v:Value) (kb q:ByteArray) (h8:8≤n):(if ep % 2=0 then(bO n v (2+ep % 2) kb q).shown 3 else(bO n v (2+ep % 2) kb q).shown 2)=(⟨(List.replicate 4096 0).toArray⟩:ByteArray):=by
 by_cases hp:ep % 2=0
 ·rw[if_pos hp];exact jm n v _ 3 kb q (by omega) (by omega) (by omega)
 ·rw[if_neg hp];exact jm n v _ 2 kb q (by omega) (by omega) (by omega)
theorem eP.lower {w:World} {lo lo' vb jb sb db xb bb cb c2 m1 m2 m3:Nat} {ro:Option Addr} {key data:ByteArray} {gen clock n lbas first ep:Int} {d:ao} (h:eP w lo vb jb sb db xb bb cb c2 m1 m2 m3 ro key data gen clock n lbas first ep d) (hl:lo'≤lo):eP w lo' vb jb sb db xb bb cb c2 m1 m2 m3 ro key data gen clock n lbas first ep d:=
 ⟨h.vol,h.jour,h.space,h.disk,h.index,h.book,h.bclock,h.clock,h.maps,⟨Nat.le_trans hl h.o.1,h.o.2⟩,⟨Nat.le_trans hl h.om.1,Nat.le_trans hl h.om.2.1,Nat.le_trans hl h.om.2.2⟩⟩
theorem eP.below {w w':World} {lo vb jb sb db xb bb cb c2 m1 m2 m3:Nat} {ro:Option Addr} {key data:ByteArray} {gen clock n lbas first ep:Int} {d:ao} (h:eP w lo vb jb sb db xb bb cb c2 m1 m2 m3 ro key data gen clock n lbas first ep d) (hb:Below w.heap.size w w'):eP w' lo vb jb sb db xb bb cb c2 m1 m2 m3 ro key data gen clock n lbas first ep d:=
 ⟨h.vol.below hb h.vol.lt,h.jour.below hb h.jour.lt,h.space.below hb h.space.lt,h.disk.below hb,h.index.below hb h.index.lt,h.book.below hb h.book.lt,h.bclock.below hb h.bclock.lt,h.clock.below hb h.clock.lt,h.maps.below hb,h.o,h.om⟩
theorem yY (db n ep:Nat) (ro:Option Addr) (lbas:Int) (v:Value) (key data kb q:ByteArray) (w:World) (hg:cM ⟨(n:Int),lbas,(ep:Int)⟩) (hk:key.size=32) (tk:aj kb (eX (ep:Int) key.data.toList)) (tq:aj q (eb ⟨1,0,ep,0,⟨(n:Int),lbas,(ep:Int)⟩⟩))
  (hdata:data.size=16) (h:aD w db (bO n v (2+ep % 2) kb q)):
  Calls Tryz.prog 127 #[.pointer (some ⟨db,0,none⟩), .string data, .pointer ro] w fun e w'=>(∃vb jb sb xb bb cb c2 m1 m2 m3,e= .returned (.tuple #[.pointer (some ⟨vb,0,none⟩), .int .i64 0])∧eP w' w.heap.size vb jb sb db xb bb cb c2 m1 m2 m3 ro key data 1 0 n lbas ep ep (bO n v (2+ep % 2) kb q))∧Below w.heap.size w w':=by
 have h8:8≤n:=by have:=hg.b0;simp only at this;omega
 have h9:n≤1024:=by have:=hg.b1;simp only at this;omega
 have hl:=uw n v (2+ep % 2) kb q
 exact wO db n ep ro 1 0 lbas (ep:Int) key data _ w h hdata rfl (uy hg) rfl (Nat.zero_le _) (by rw[hl];exact h9) hl (fun i h4 hi=>jm n v _ i kb q hi (by omega) (by omega)) (yX n ep v kb q h8) (yW db n ep lbas v key kb q hg hk tk tq)
def qR (s:UInt8×UInt8×UInt8):UInt8×UInt8×UInt8:=
 (if s.2.2&&&1=1 then s.1^^^s.2.1 else s.1,(s.2.1<<<1)^^^((s.2.1>>>7)*27),s.2.2>>>1)
def E7 (a b:UInt8):Nat→UInt8×UInt8×UInt8
 |0=>(0,a,b)
 |k+1=>qR (E7 a b k)
def DZ (a b:UInt8):UInt8:=(E7 a b 8).1
def tA (b n:UInt8):UInt8:=(b<<<n)|||(b>>>(8-n))
def tB:Nat→UInt8×UInt8×List UInt8
 |0=>(1,1,List.replicate 256 0)
 |k+1=>
  let p:=DZ (tB k).1 3
  let q:=DZ (tB k).2.1 246
  (p,q,(tB k).2.2.set p.toNat (q^^^tA q 1^^^tA q 2^^^tA q 3^^^tA q 4^^^99))
def D1:List UInt8:=(tB 255).2.2.set 0 99
def yZ (b:UInt8):UInt8:=D1.getD b.toNat 0
def IU (w:List UInt8) (i:Nat) (power:UInt8):List UInt8:=
 let t:=(List.range 4).map fun r=>w.getD (4*(i-1)+r) 0
 if i % 4=0 then[yZ (t.getD 1 0)^^^power,yZ (t.getD 2 0),yZ (t.getD 3 0),yZ (t.getD 0 0)]else t
def jN (key:List UInt8):Nat→List UInt8×UInt8
 |0=>([],1)
 |i+1=>
  if i<4 then((jN key i).1++(List.range 4).map (fun r=>key.getD (4*i+r) 0),(jN key i).2)
  else((jN key i).1++(List.range 4).map (fun r=>(jN key i).1.getD (4*(i-4)+r) 0^^^(IU (jN key i).1 i (jN key i).2).getD r 0),if i % 4=0 then DZ (jN key i).2 2 else(jN key i).2)
def I1 (key:List UInt8):List UInt8:=(jN key 44).1
theorem D3 {P:UInt8→Prop} (h:∀n:Fin 256,P (UInt8.ofNat n.val)) (b:UInt8):P b:=by
 have:=h ⟨b.toNat,b.toNat_lt⟩
 simpa using this
theorem D4 (y:UInt8):y&&&1=1↔(bits BinOp.and IntKind.u8 ((y.toNat:Nat):Int) 1==1)=true:=by
 refine D3 (P:=fun y=>y&&&1=1↔(bits BinOp.and IntKind.u8 ((y.toNat:Nat):Int) 1==1)=true) ?_ y
 decide+kernel
theorem mul_one (n x y:UInt8) (h:(bits BinOp.and IntKind.u8 ((y.toNat:Nat):Int) 1==1)=true):qR (n,x,y)=(n^^^x,(x<<<1)^^^((x>>>7)*27),y>>>1):=by
 unfold qR;rw[if_pos ((D4 y).2 h)]
structure za (w wr:World) (xb b4 b3:Nat) (cur x by4:List UInt8):Prop where
 cur:ab wr xb (bytesV cur) 424
 was:ab wr b4 (bytesV x) 424
 by4:ab wr b3 (bytesV by4) 415
 t:aa [xb] w wr
theorem za.drew {w wr:World} {xb b4 b3:Nat} {cur x by4:List UInt8} (h:za w wr xb b4 b3 cur x by4):za w wr.drew xb b4 b3 cur x by4:=⟨h.cur.drew,h.was.drew,h.by4.drew,h.t.drew⟩
structure gW (w wr:World) (b2 b3 b4:Nat) (l:List UInt8):Prop where
 ws:ab wr b3 (bytesV l) 417
 box:ab wr b4 (bytesV D1) 419
 out:ab wr b2 (bytesV (List.replicate 176 0)) 417
 below:Below w.heap.size w wr
theorem gW.next {w wr wx:World} {b2 b3 b4:Nat} {l:List UInt8} (h:gW w wr b2 b3 b4 l) (hb:Below wr.heap.size wr wx):gW w wx b2 b3 b4 l:=
 ⟨h.ws.below hb h.ws.lt,h.box.below hb h.box.lt,h.out.below hb h.out.lt,h.below.trans (hb.mono h.below.size)⟩
theorem gW.set {w wr:World} {b2 b3 b4:Nat} {l:List UInt8} (h:gW w wr b2 b3 b4 l) (hn:b2<b3∧b3<b4) (hl:w.heap.size≤b3) (i:Nat) (b:UInt8):gW w (wr.setCell ⟨b3,i,none⟩ (.int .u8 ((b.toNat:Nat):Int))) b2 b3 b4 (l.set i b):=
 ⟨(h.ws.set i _).ext (fC _ _ _),h.box.set_other (a:=⟨b3,i,none⟩) (by show b4≠b3;omega) _,h.out.set_other (a:=⟨b3,i,none⟩) (by show b2≠b3;omega) _,h.below.setCell (p:=⟨b3,i,none⟩) hl _⟩
theorem gW.drew {w wr:World} {b2 b3 b4:Nat} {l:List UInt8} (h:gW w wr b2 b3 b4 l):gW w wr.drew b2 b3 b4 l:=⟨h.ws.drew,h.box.drew,h.out.drew,h.below.drew⟩
theorem gW.only {w wr wx:World} {b2 b3 b4 b7:Nat} {l:List UInt8} (h:gW w wr b2 b3 b4 l) (o:cz b7 wr wx) (hn:b2≠b7∧b3≠b7∧b4≠b7) (hl:w.heap.size≤b7):gW w wx b2 b3 b4 l:=
 ⟨o.blk h.ws hn.2.1,o.blk h.box hn.2.2,o.blk h.out hn.1,o.below h.below hl⟩
def wT (W:List UInt8):List Value:= .bool true::(bytesV W++bytesV D1)
structure ft (w:World) (cb vb:Nat) (W:List UInt8):Prop where
 blk:ab w cb (wT W) 422
 var:ab w vb [.pointer (some ⟨cb,0,none⟩)] 375
theorem ft.below {w w':World} {cb vb:Nat} {W:List UInt8} (h:ft w cb vb W) (hb:Below w.heap.size w w'):ft w' cb vb W:=⟨h.blk.below hb h.blk.lt,h.var.below hb h.var.lt⟩
theorem ft.turned {w w':World} {cb vb:Nat} {W:List UInt8} {S:List Nat} (h:ft w cb vb W) (t:aa S w w') (h1:cb∉S) (h2:vb∉S):ft w' cb vb W:=⟨t.blk h.blk h1,t.blk h.var h2⟩
theorem ft.drew {w:World} {cb vb:Nat} {W:List UInt8} (h:ft w cb vb W):ft w.drew cb vb W:=⟨h.blk.drew,h.var.drew⟩
def uz (w:World) (b:Nat) (l:List UInt8):Prop:=Lib.IsBuilderF 207 5 b b (Lib.byteCells l) w
theorem uz.of {w:World} {b:Nat} {l:List UInt8} (h:fG w b l):uz w b l:=Lib.IsBuilderF.of h
theorem kj {T e:TypeId} {B b:Nat} {p:Value} {bs:List Value} {w w':World} (h:Lib.BuilderAtF T e B b p bs w) (hb:Below w.heap.size w w'):Lib.BuilderAtF T e B b p bs w':=by
 obtain⟨hB,v,hv,hown,hne⟩:=h
 have hlt:b<w.heap.size:=(Array.getElem?_eq_some_iff.1 hv).1
 refine⟨hB,v,by rw[hb.block b hlt,hv], ?_,hne⟩
 refine⟨hown.1, ?_⟩
 rcases hown.2 with hn|⟨g,cap,cur,fz,rfl,hg,hgg,rest⟩
 ·exact .inl hn
 ·refine .inr ⟨g,cap,cur,fz,rfl,hg, ?_,rest⟩
  rw[hb.block g (Array.getElem?_eq_some_iff.1 hgg).1]
  exact hgg
theorem uz.below {w w':World} {b:Nat} {l:List UInt8} (h:uz w b l) (hb:Below w.heap.size w w'):uz w' b l:=
 h.imp (fun h=>kj h hb) (fun h=>kj h hb)
structure I6 (key W:List UInt8):Prop where
 e:I1 key=W
 l:W.length=176
structure Ep (e s:Nat):Prop where
 e:e<4294967296
 s:s<4294967296
structure dq where
 epoch:Int
 slot:Int
 lba:Int
 gone:Bool
 cipher:ByteArray
def dq.cells (c:dq):List Value:=[.int .i64 c.epoch, .int .i64 c.slot, .int .i64 c.lba, .bool c.gone, .string c.cipher]
structure I7 (c:dq):Prop where
 e0:0≤c.epoch
 e1:c.epoch≤4294967295
 s0:0≤c.slot
 s1:c.slot≤4294967295
 l0:0≤c.lba
 l1:c.lba≤4095
 n:c.cipher.size≤4000
 g:c.gone=true→c.cipher=⟨#[]⟩
theorem uB {c:dq}:(Tryz.prog.info? 162).map (·.size)=some c.cells.length:=by kernel_rfl
def holdL (s:List UInt8):List UInt8:=jY ([3]++cZ s) 4096
theorem uC (s:List UInt8) (h:s.length≤4000):(holdL s).length=4096:=kG (by rw[List.length_append,bg];simp;omega)
theorem km {v:ba}:(Tryz.prog.info? 181).map (·.size)=some v.cells.length:=by kernel_rfl
structure I8 (v:ba):Prop where
 l0:0≤v.lba
 l1:v.lba≤4095
 e0:0≤v.epoch
 e1:v.epoch≤4294967295
 s0:0≤v.slot
 s1:v.slot≤4294967295
theorem wU (xb:Nat) (xv:Value) (w:World) (h:ab w xb [.bool true,xv] 314):
  Calls Tryz.prog 246 #[.pointer (some ⟨xb,0,none⟩)] w fun e w'=>e= .returned (.bool true)∧w=w':=by
 have c0:=h.cell (i:=0) rfl
 go_enter Tryz.func246,Tryz.ntmps246
 go_wp2_with fail
 go_ret
 exact⟨rfl,rfl⟩
theorem FA {w:World} {g:Nat} {l:List ba} {z:List Value} {t:TypeId} (h:ab w g (cO l++z) t) {m:Nat} {x:ba} (hx:l[m]?=some x):w.rangeAt g (m*3) x.cells:=by
 have hl:=(List.getElem?_eq_some_iff.1 hx).1
 have hf:=DV l m x hx
 have h3:=um l
 intro j u hu
 match j,hu with
 |0,hu=>simp[ba.cells]at hu;subst hu;exact h.cell (by rw[List.getElem?_append_left (by omega)];exact hf.1)
 |1,hu=>simp[ba.cells]at hu;subst hu;exact h.cell (by rw[List.getElem?_append_left (by omega)];exact hf.2.1)
 |2,hu=>simp[ba.cells]at hu;subst hu;exact h.cell (by rw[List.getElem?_append_left (by omega)];exact hf.2.2)
 |j+3,hu=>simp[ba.cells]at hu
structure I2 (l:List ba) (v:ba) (i:Nat):Prop where
 le:i≤l.length
 ahead:∀(t:Nat) (x:ba),l[t]?=some x→t<i→GW x v<0
 behind:∀(t:Nat) (x:ba),l[t]?=some x→i≤t→0≤GW x v
theorem D5:(Tryz.prog.info? 181).map (fun i=>(i.zero,i.size,i.bytes))=some (some (.agg (ba.cells ⟨0,0,0⟩).toArray),3,24):=by kernel_rfl
theorem oG (i:aV) (v:bk) (w:World) (h:bA w i v):
  Calls Tryz.prog 36 #[.pointer (some ⟨i.vb,0,none⟩)] w fun e w'=>e= .returned (.bool true)∧w=w':=
 rD i.vb i.jb i.bb v.key v.data (.pointer (some ⟨i.xb,0,none⟩)) i.sv (.pointer (some ⟨i.cb,0,none⟩)) i.rv w h.vol
def E8:List Value:=dq.cells ⟨0,0,0,false,⟨#[]⟩⟩
theorem zeroCell (w:World):Sem.run Tryz.prog (zeroValue 162) w= .ok (.agg E8.toArray) w:=by kernel_rfl
theorem uD (c:dq):∀v∈c.cells,v.oneCell'=true:=by intro v hv;simp[dq.cells]at hv;rcases hv with rfl|rfl|rfl|rfl|rfl<;>rfl
theorem qS (v:Value) (n:Nat) (xs:List ba) (w:World) (h:w.ownsRow 0 181 3 v n (cO xs)) (hn:n≤4096):
  Calls Tryz.prog 322 #[v] w fun e w'=>(∃v',e= .returned v'∧w'.ownsRow w.heap.size 181 3 v' n (cO xs))∧Below w.heap.size w w':=by
 obtain⟨i0,hi,hz0,hz1,hz2⟩:=info_parts D5
 rcases h.2 with⟨rfl,rfl⟩|⟨g,cap,cur,rfl,_⟩
 ·have hx:(cO xs)=([]:List Value):=List.eq_nil_of_length_eq_zero (by simpa using h.1)
  have HX:=Lib.hid hx
  clear hx h
  have hnn:∀w,(binOp .eql 258 (.slice none 0 0) (.slice none 0 0)).run Tryz.prog w= .ok (.bool true) w:=fun w=>Lib.run_eql_slice_nil w 258 181 none 0 0 0 0 Tryz.underlying258
  go_enter Tryz.func322,Tryz.ntmps322
  go_wp2_with fail
  go_ret
  exact⟨⟨_,rfl,by rw[HX.out];exact World.ownsRow_nil _ _ _ _⟩,Below.refl _ _⟩
 ·have HG:=Lib.hid h
  have hnn:∀w,(binOp .eql 258 (.slice (some ⟨g,0,none⟩) n cap) (.slice none 0 0)).run Tryz.prog w= .ok (.bool false) w:=fun w=>Lib.run_eql_slice_nil w 258 181 (some ⟨g,0,none⟩) n cap 0 0 Tryz.underlying258
  have hcs:∀j u,(cO xs)[j]?=some u→(w.alloc (.cells #[] 181)).cell? ((⟨g,0,none⟩:Addr).add j)=some u:=fun j u hu=>(World.ownsRow.alloc h _).cells (g:=g) rfl j u hu
  have HCS:=Lib.hid hcs
  have HL:=Lib.hid h.1
  have HONE:=Lib.hid (show ∀u∈(cO xs),u.oneCell'=true from AX xs)
  clear h hcs
  go_enter Tryz.func322,Tryz.ntmps322
  go_wp2_with (first
   |(at_builtin;refine wpList_append_own_wide _ rfl _ _ 258 rfl w.heap.size 181 i0 (.agg (ba.cells ⟨0,0,0⟩).toArray) 3 24 Tryz.underlying258 hi hz0 hz1 hz2 rfl (by decide) _ 0 [] rfl (World.ownsRow_lit w #[] 0 (Nat.le_refl _) (by decide) rfl) ⟨g,0,none⟩ n cap (cO xs) rfl HL.out HCS.out HONE.out (by unfold maxLen;omega) (by omega) (by simp) ?_;intro v' w8 own8 grow8 nil8)
   |fail)
  have hb8:Below w.heap.size w w8:=jv ((Below.refl _ _).alloc (Nat.le_refl _) _) (World.ownsRow_lit (e:=181) (size:=3) w #[] 0 (Nat.le_refl _) (by decide) rfl) grow8 (Nat.le_refl _) (by simp)
  rw[Nat.zero_add,List.nil_append]at own8
  have OWN:=Lib.hid own8
  obtain⟨p,c',hv⟩:=aT own8
  subst hv
  clear own8 grow8 nil8
  go_ret
  exact⟨⟨_,rfl,OWN.out⟩,hb8⟩
theorem Bc (xb n:Nat) (xv:Value) (l:List ba) (w:World) (hX:ab w xb [.bool true,xv] 314) (hR:w.ownsRow 0 181 3 xv n (cO l)) (hn:n≤4096):
  Calls Tryz.prog 234 #[.pointer (some ⟨xb,0,none⟩)] w fun e w'=>(∃v',e= .returned v'∧w'.ownsRow w.heap.size 181 3 v' n (cO l))∧Below w.heap.size w w':=by
 obtain⟨p,c,hpc⟩:=aT hR
 subst hpc
 have c1:=hX.cell (i:=1) rfl
 go_enter Tryz.func234,Tryz.ntmps234
 go_wp2_with fail
 refine(wU xb _ _ hX).mono ?_
 rintro e w' ⟨rfl,rfl⟩
 go_wp2_with fail
 refine(qS _ n l _ hR hn).mono ?_
 rintro e w1 ⟨⟨v',rfl,hv'⟩,hb⟩
 go_wp2_with fail
 go_ret
 exact⟨⟨v',rfl,hv'⟩,hb⟩
def ym (lba epoch:Int) (x:ba):Prop:=x.lba<lba∨(x.lba=lba∧x.epoch≤epoch)
instance (lba epoch:Int) (x:ba):Decidable (ym lba epoch x):=by unfold ym;exact inferInstance
structure GX (l:List ba) (lba epoch:Int) (i:Nat):Prop where
 le:i≤l.length
 ahead:∀(t:Nat) (x:ba),l[t]?=some x→t<i→ym lba epoch x
 behind:∀(t:Nat) (x:ba),l[t]?=some x→i≤t→¬ym lba epoch x
theorem pj (x:ba):∀v∈x.cells,v.oneCell'=true:=by intro v hv;simp[ba.cells]at hv;rcases hv with rfl|rfl|rfl<;>rfl
theorem uE (w:World):Sem.run Tryz.prog (zeroValue 181) w= .ok (.agg (ba.cells ⟨0,0,0⟩).toArray) w:=by kernel_rfl
structure I3 (l:List ba) (lba epoch:Int) (x:ba):Prop where
 at_:∃k:Nat,GX l lba epoch (k+1)∧l[k]?=some x
 pl:x.lba=lba
 mono:∀(i j:Nat) (a b:ba),l[i]?=some a→l[j]?=some b→i≤j→ym lba epoch b→ym lba epoch a
open Go.Maps Go.WideMaps
theorem Bd:Keyed Tryz.prog 9:=string_keyed Tryz.underlying9
theorem qT (cb:Nat) (now t:Int) (w:World) (h:ab w cb [.bool true, .int .i64 now] 302) (h0:0≤t) (h1:t≤1099511627776) (h2:now≤t):
  Calls Tryz.prog 154 #[.pointer (some ⟨cb,0,none⟩), .int .i64 t] w fun e w'=>(e= .returned (.int .i64 0)∧ab w' cb [.bool true, .int .i64 t] 302)∧aa [cb] w w':=by
 have hmf:∀(fn:Fn) (first cap:Array Value) (w:World),(Instr.makeFunc fn first cap).run Tryz.prog w= .ok (.func fn first cap) w:=fun _ _ _ _=>rfl
 have c1:=h.cell (i:=1) rfl
 have f1:=h.free 1
 have HC:=Lib.hid h
 clear h
 go_enter Tryz.func154,Tryz.ntmps154
 go_wp2_with fail
 refine(kJ cb now _ HC.out).mono ?_
 rintro e w1 ⟨rfl,rfl⟩
 go_wp2_with fail
 go_ret
 exact⟨⟨rfl,(HC.out.set 1 _).ext rfl⟩,(aa.refl _ _).setCell (.inl (by simp)) 1 _⟩
theorem uF (bb c2 m1 m2 m3 n:Nat) (first epoch:Int) (U L G:DataW Unit) (r:Rec) (w:World) (h:ab w bb (bD c2 first epoch m1 m2 m3) 167) (hm:cG w m1 m2 m3 n U L G) (hk:r.kind=1) (hn:r.name.size≤16):
  Calls Tryz.prog 336 #[.pointer (some ⟨bb,0,none⟩),r.v] w fun x w'=>x= .returned (.int .i64 0)∧Below w.heap.size w w':=by
 have HB:=Lib.hid h
 have HM:=Lib.hid hm
 have HK:=Lib.hid hk
 have HNM:=Lib.hid hn
 clear h hm hk hn
 go_enter Tryz.func336,Tryz.ntmps336
 go_wp2_with (first
  |((with_reducible refine ag 25 (.tmp 1) r.cells (some 3) ?hgd ?ho ?hd ?hx ?_);(case hgd|ho|hd|hx=>rfl);(intro b3 w3 l3 B3 e3 z3))
  |fail)
 have HB1:=Lib.hid (HB.out.below (e3.mono l3) HB.out.lt)
 have HM1:=Lib.hid (HM.out.below (e3.mono l3))
 have q0:w3.cell? ⟨b3,0,none⟩=some (.int .i64 1):=by have:=B3.cell (i:=0) rfl;rw[HK.out]at this;exact this
 have q7:=B3.cell (i:=7) rfl
 have c4:=HB1.out.cell (i:=4) rfl
 obtain⟨v,ps,hrun,hv⟩:=(World.ownsMap.drew HM1.out.l).look_ok Bd Tryz.underlying164 (z:= .int .i64 0) (by kernel_rfl) (plainElem_int Tryz.underlying3 (by decide)) (keyOf_string_mk Tryz.underlying9 (s:=r.name) (by have:=HNM.out;unfold maxLen;omega))
 obtain⟨ok,hok⟩:∃ok,Maps.has L (.string r.name.data.toList)=ok:=⟨_,rfl⟩
 rw[hok]at hrun
 have HBE:=Lib.hid (e3.mono l3)
 clear hv hok B3 e3 z3 l3
 refine cR (by kernel_rfl) (by kernel_rfl) ?_
 repeat still_step
 refine wpStill_nil ?_
 go_wp2_with fail
 go_ret
 exact⟨rfl,HBE.out.drew⟩
theorem Bf (bb c2 m1 m2 m3 n:Nat) (first epoch now:Int) (U L G:DataW Unit) (r:Rec) (w:World) (h:ab w bb (bD c2 first epoch m1 m2 m3) 167) (hc:ab w c2 [.bool true, .int .i64 now] 302) (hm:cG w m1 m2 m3 n U L G) (hk:r.kind=1) (hok:am r=true) (hep:r.epoch=epoch) (hnow:now≤r.time):
  Calls Tryz.prog 262 #[.pointer (some ⟨bb,0,none⟩),r.v] w fun x w'=>x= .returned (.int .i64 0)∧Below w.heap.size w w':=by
 have hf:=dd hok
 have HB:=Lib.hid h
 have HC:=Lib.hid hc
 have HM:=Lib.hid hm
 have HK:=Lib.hid hk
 have HOK:=Lib.hid hok
 have HEP:=Lib.hid hep
 have HNM:=Lib.hid (show r.name.size≤16 from by omega)
 have HFE:=Lib.hid (show Fits r.epoch from by unfold Fits;omega)
 have hnow':¬r.time<now:=by omega
 clear h hc hm hk hok hep hf hnow
 go_enter Tryz.func262,Tryz.ntmps262
 go_wp2_with (first
  |((with_reducible refine ag 25 (.tmp 1) r.cells (some 3) ?hgd ?ho ?hd ?hx ?_);(case hgd|ho|hd|hx=>rfl);(intro b3 w3 l3 B3 e3 z3))
  |fail)
 have HR3:=Lib.hid B3
 have HBE3:=Lib.hid (e3.mono l3)
 have HB3:=Lib.hid (HB.out.below (e3.mono l3) HB.out.lt)
 have HC3:=Lib.hid (HC.out.below (e3.mono l3) HC.out.lt)
 have HM3:=Lib.hid (HM.out.below (e3.mono l3))
 clear B3 e3 z3 l3
 refine(ja bb c2 first epoch m1 m2 m3 _ HB3.out).mono ?_
 rintro e w' ⟨rfl,rfl⟩
 go_wp2_with (first
  |((with_reducible refine ar 25 (.tmp 3) b3 r.cells 25 _ HR3.out Tryz.underlying25 rfl aI ?hgd ?ho ?hx ?_);(case hgd|ho|hx=>rfl))
  |fail)
 refine(gn r _ (by have:=HNM.out;omega) HFE.out).mono ?_
 rintro e w4 ⟨rfl,hb4⟩
 rw[ki HOK.out]
 have HR4:=Lib.hid (HR3.out.below hb4 HR3.out.lt)
 have HB4:=Lib.hid (HB3.out.below hb4 HB3.out.lt)
 have HC4:=Lib.hid (HC3.out.below hb4 HC3.out.lt)
 have HM4:=Lib.hid (HM3.out.below hb4)
 have HBE4:=Lib.hid (HBE3.out.trans (hb4.mono HBE3.out.size))
 clear hb4
 go_upto_region 5 with fail
 refine wp_region_held_drew (S:=fun wx=>wx.cell? ⟨b3,1,none⟩=some (.int .i64 r.epoch)∧wx.cell? ⟨bb,2,none⟩=some (.int .i64 r.epoch)∧wx.cell? ⟨b3,2,none⟩=some (.int .i64 r.time)) (by kernel_rfl) (⟨HR4.out.drew.cell (i:=1) rfl,(by have:=HB4.out.drew.cell (i:=2) rfl;rw[←HEP.out]at this;exact this),HR4.out.drew.cell (i:=2) rfl⟩) (fun hHeld=> ?_)
 refine hp 0 ?_
 refine hp 1 ?_
 refine hp 2 ?_
 refine hp 3 ?_
 refine hp 4 ?_
 refine hp 5 ?_
 refine hp 6 ?_
 refine hp 7 ?_
 refine hp 8 ?_
 refine hp 9 ?_
 refine hp 10 ?_
 refine wpAnyH_ready (rs:=[11]) (by kernel_rfl) (by simp) ?_
 refine AllReadyH.cons rfl (fun K hK=> ?_) AllReadyH.nil
 go_simp
 refine(mY bb c2 first epoch m1 m2 m3 _ HB4.out.drew now HC4.out.drew).mono ?_
 rintro e w' ⟨rfl,rfl⟩
 (try go_wp2_with fail)
 refine hK.out _ _ (⟨HR4.out.drew.cell (i:=1) rfl,(by have:=HB4.out.drew.cell (i:=2) rfl;rw[←HEP.out]at this;exact this),HR4.out.drew.cell (i:=2) rfl⟩) (fun hHeld2=> ?_)
 clear hK K hHeld
 have hHeld:=hHeld2
 clear hHeld2
 (try go_frame)
 refine hp 12 ?_
 refine hp 13 ?_
 refine hp 14 ?_
 refine wpAnyH_done (by kernel_rfl) ?_ _
 clear hHeld
 go_wp2_with (first
  |((with_reducible refine ar 25 (.tmp 3) b3 r.cells 25 _ HR4.out.drew Tryz.underlying25 rfl aI ?hgd ?ho ?hx ?_);(case hgd|ho|hx=>rfl))
  |fail)
 refine(uF bb c2 m1 m2 m3 n first epoch U L G r _ HB4.out.drew ⟨HM4.out.u,HM4.out.l,HM4.out.g,HM4.out.n1,HM4.out.n2,HM4.out.n3⟩ HK.out HNM.out).mono ?_
 rintro e w6 ⟨rfl,hb6⟩
 have q0:w6.cell? ⟨b3,0,none⟩=some (.int .i64 1):=by have:=(HR4.out.drew.below hb6 HR4.out.lt).cell (i:=0) rfl;rw[HK.out]at this;exact this
 have HBE6:=Lib.hid (HBE4.out.drew.trans (hb6.mono HBE4.out.size))
 clear hb6
 go_wp2_with fail
 go_ret
 exact⟨rfl,HBE6.out⟩
theorem wV (bb c2 m1 m2 m3 n:Nat) (first epoch now:Int) (U L G:DataW Unit) (r:Rec) (w:World) (h:ab w bb (bD c2 first epoch m1 m2 m3) 167) (hc:ab w c2 [.bool true, .int .i64 now] 302) (hm:cG w m1 m2 m3 n U L G) (hk:r.kind=1) (hok:am r=true) (hep:r.epoch=epoch) (hnow:now≤r.time) (hne:bb≠c2):
  Calls Tryz.prog 148 #[.pointer (some ⟨bb,0,none⟩),r.v] w fun x w'=>(x= .returned (.int .i64 0)∧ab w' bb (bD c2 first (epoch+1) m1 m2 m3) 167∧ab w' c2 [.bool true, .int .i64 r.time] 302)∧aa [bb,c2] w w':=by
 have hf:=dd hok
 have HB:=Lib.hid h
 have HC:=Lib.hid hc
 have HM:=Lib.hid hm
 have HK:=Lib.hid hk
 have HNE:=Lib.hid hne
 have HC0:=Lib.hid hc.lt
 have HT:=Lib.hid (show 0≤r.time∧r.time≤1099511627776∧now≤r.time from⟨by omega,by omega,hnow⟩)
 have HEP:=Lib.hid (show 0≤epoch∧epoch≤4294967295 from⟨by omega,by omega⟩)
 have HMAY:=Lib.hid (fun(wx:World) (a:ab wx bb (bD c2 first epoch m1 m2 m3) 167) (b:ab wx c2 [.bool true, .int .i64 now] 302) (d:cG wx m1 m2 m3 n U L G)=>Bf bb c2 m1 m2 m3 n first epoch now U L G r wx a b d hk hok hep hnow)
 clear h hc hm hk hok hep hnow hne hf
 go_enter Tryz.func148,Tryz.ntmps148
 go_wp2_with (first
  |((with_reducible refine ag 25 (.tmp 1) r.cells (some 3) ?hgd ?ho ?hd ?hx ?_);(case hgd|ho|hd|hx=>rfl);(intro b3 w3 l3 B3 e3 z3))
  |((with_reducible refine ar 25 (.tmp 3) b3 r.cells 25 _ B3 Tryz.underlying25 rfl aI ?hgd ?ho ?hx ?_);(case hgd|ho|hx=>rfl))
  |fail)
 have HR3:=Lib.hid B3
 have HL3:=Lib.hid l3
 have HBE3:=Lib.hid (e3.mono l3)
 have HB3:=Lib.hid (HB.out.below (e3.mono l3) HB.out.lt)
 have HC3:=Lib.hid (HC.out.below (e3.mono l3) HC.out.lt)
 have HM3:=Lib.hid (HM.out.below (e3.mono l3))
 clear B3 e3 z3 l3
 refine(HMAY.out _ HB3.out HC3.out HM3.out).mono ?_
 rintro e w4 ⟨rfl,hb4⟩
 have HR4:=Lib.hid (HR3.out.below hb4 HR3.out.lt)
 have HB4:=Lib.hid (HB3.out.below hb4 HB3.out.lt)
 have HC4:=Lib.hid (HC3.out.below hb4 HC3.out.lt)
 have HBE4:=Lib.hid (HBE3.out.trans (hb4.mono HBE3.out.size))
 clear hb4
 go_upto_region 4 with fail
 refine wp_region_held_drew (S:=fun wx=>wx.cell? ⟨bb,0,none⟩=some (.pointer (some ⟨c2,0,none⟩))∧wx.cell? ⟨b3,2,none⟩=some (.int .i64 r.time)) (by kernel_rfl) (⟨HB4.out.drew.cell (i:=0) rfl,HR4.out.drew.cell (i:=2) rfl⟩) (fun hHeld=> ?_)
 refine hp 0 ?_
 refine hp 1 ?_
 refine hp 2 ?_
 refine hp 3 ?_
 refine hp 4 ?_
 refine hp 5 ?_
 refine wpAnyH_ready (rs:=[6]) (by kernel_rfl) (by simp) ?_
 refine AllReadyH.cons rfl (fun K hK=> ?_) AllReadyH.nil
 go_simp
 refine(qT c2 now r.time _ HC4.out.drew HT.out.1 HT.out.2.1 HT.out.2.2).mono ?_
 rintro e w5 ⟨⟨rfl,hc5⟩,ht5⟩
 have HB5:=Lib.hid (ht5.blk HB4.out.drew (by simp;exact HNE.out))
 have HR5:=Lib.hid (ht5.blk HR4.out.drew (by simp;have:=HL3.out;have:=HC0.out;omega))
 have HC5:=Lib.hid hc5
 have HT5:=Lib.hid ht5
 clear hc5 ht5
 (try go_wp2_with fail)
 refine hK.out _ _ (⟨HB5.out.cell (i:=0) rfl,HR5.out.cell (i:=2) rfl⟩) (fun hHeld2=> ?_)
 clear hK K hHeld
 have hHeld:=hHeld2
 clear hHeld2
 (try go_frame)
 refine wpAnyH_done (by kernel_rfl) ?_ _
 clear hHeld
 have q0:w5.cell? ⟨b3,0,none⟩=some (.int .i64 1):=by have:=HR5.out.cell (i:=0) rfl;rw[HK.out]at this;exact this
 have c2':=HB5.out.cell (i:=2) rfl
 have f2':=HB5.out.free 2
 have he1:=HEP.out.1
 have he2:=HEP.out.2
 go_wp2_with fail
 go_ret
 refine⟨⟨rfl,(HB5.out.set 2 _).ext rfl, ?_⟩, ?_⟩
 ·exact HC5.out.set_other (by show c2≠bb;exact fun e=>HNE.out e.symm) _
 ·have t1:aa [bb,c2] w w4.drew:=(aa.of_below HBE4.out (Nat.le_refl _)).drew
  exact(t1.trans (HT5.out.mono (by simp))).trans ((aa.refl _ _).setCell (.inl (by simp)) 2 _)
end Go.Proofs.YtgimkmclgjfddaaGreat
