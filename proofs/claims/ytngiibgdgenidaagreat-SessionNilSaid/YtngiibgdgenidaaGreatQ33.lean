/- A round (chapter 31). Rounds till the session ends (chapter 31). What a statement's parameters hand to its walk: a call of a volume by value. A volume does a call: it closes an epoch (chapter 26). The messages of a session in which nothing was written (chapters 27, 31). -/
import Derived.Test.YtngiibgdgenidaaGreatQ32
import Derived.Test.YtngiibgdgenidaaGreatQ5
import Derived.Lib.SmallJoins
import Derived.Deep.Fields
import Derived.Test.YtngiibgdgenidaaGreatQ26
import Derived.Test.YtngiibgdgenidaaGreatQ25
import Derived.Deep.RegionWith
set_option linter.unusedSimpArgs false
set_option linter.unusedVariables false
set_option maxRecDepth 100000
set_option maxHeartbeats 4000000
namespace Go.Proofs.YtngiibgdgenidaaGreat
open Go Go.RowKit Go.Maps Go.WideMaps
theorem jy (s:bL) (d:ay) (QM QA:aa→Prop) (QD:ay→Prop) (p:Option Addr) (w:World) (h:bO w s d (.slice p 0 0)) (hM:∀M,QM M→dW M) (hQ:∀A,QA A→dW A)
  (hO:∀wx:World,bq wx s.xb d→Calls Tryz.prog 24 #[.pointer (some ⟨s.xb,0,none⟩)] wx fun e w'=>(∃M:aa,e= .returned (.tuple #[M.v (.slice none 0 0) (.slice none 0 0), .bool true])∧QM M)∧Below wx.heap.size wx w')
  (hA:∀(M:aa) (p1 p2:Option Addr) (c1 c2:Nat) (wx:World),QM M→aP wx s.i s.v→Calls Tryz.prog 69 #[.pointer (some ⟨s.i.vb,0,none⟩),M.v (.slice p1 0 c1) (.slice p2 0 c2)] wx fun e w'=>(∃A:aa,e= .returned (.tuple #[A.v (.slice none 0 0) (.slice none 0 0), .bool true])∧QA A)∧Below wx.heap.size wx w')
  (hI:∀(A:aa) (p1 p2:Option Addr) (c1 c2:Nat) (wx:World),QA A→bq wx s.xb d→Calls Tryz.prog 29 #[.pointer (some ⟨s.xb,0,none⟩),A.v (.slice p1 0 c1) (.slice p2 0 c2)] wx fun e w'=>e= .returned (.int .i64 0)∧∃d',bW wx w' s.xb d d'∧QD d'):
  Calls Tryz.prog 14 #[.pointer (some ⟨s.wb,0,none⟩)] w fun e w'=>e= .returned (.int .i64 0)∧∃(d':ay) (p':Option Addr),QD d'∧bA w w' s d d' (.slice p' 0 0):=by
 have HH:=Lib.hid h
 have HM:=Lib.hid hM
 have HQ:=Lib.hid hQ
 have HO:=Lib.hid hO
 have HA:=Lib.hid hA
 have HI:=Lib.hid hI
 have hmk:∀(fn:Fn) (first cap:Array Value) (w:World),(Instr.makeFunc fn first cap).run Tryz.prog w= .ok (.func fn first cap) w:=fun _ _ _ _=>rfl
 clear h hM hQ hO hA hI
 go_enter Tryz.func14,Tryz.ntmps14
 go_upto_region 1 with fail
 have B1:ac (w.alloc (Obj.cells #[.pointer (some ⟨s.wb,0,none⟩)] 28)) w.heap.size [.pointer (some ⟨s.wb,0,none⟩)] 28:=ac.new w [.pointer (some ⟨s.wb,0,none⟩)] 28
 have e1:Below w.heap.size w (w.alloc (Obj.cells #[.pointer (some ⟨s.wb,0,none⟩)] 28)):=(Below.refl _ _).alloc (Nat.le_refl _) _
 generalize w.alloc (Obj.cells #[.pointer (some ⟨s.wb,0,none⟩)] 28)=w1 at B1 e1 ⊢
 obtain⟨rb,hrb⟩:∃r,r=w.heap.size:=⟨_,rfl⟩
 rw[←hrb]at B1 ⊢
 have l1:w.heap.size≤rb:=by rw[hrb];exact Nat.le_refl _
 have HRN:=Lib.hid (show rb∉s.nb::d.foot s.xb from fun hm=>(List.mem_cons.1 hm).elim (fun e=>by have:=HH.out.net.lt;rw[←e]at this;omega) (fun hx=>by have:=HH.out.ver.foot_lt rb hx;omega))
 have HL:=Lib.hid B1.lt
 have HR:=Lib.hid (show w1.cell? ⟨rb,0,none⟩=some (.pointer (some ⟨s.wb,0,none⟩))from B1.cell (i:=0) rfl)
 have hr1:=HR.out
 have HB:=Lib.hid e1
 have H1:=Lib.hid (bA.refl (HH.out.below HB.out))
 clear B1 e1 l1 hrb HH
 go_wp2_with fail
 refine(eE s d _ _ H1.out.at').mono ?_
 rintro e w' ⟨rfl,hw⟩
 subst hw
 go_wp2_with fail
 refine(Ai s d p rb _ H1.out.at' HR.out HL.out HRN.out).mono ?_
 rintro e w2 ⟨rfl,ht2⟩
 have H2:=Lib.hid ht2
 clear ht2 hr1
 have hr2:w2.cell? ⟨rb,0,none⟩=some (.pointer (some ⟨s.wb,0,none⟩)):=by rw[H2.out.turned.cell HL.out HRN.out];exact HR.out
 go_wp2_with fail
 refine(Ah s d QM p _ H2.out.at' HM.out HO.out).mono ?_
 rintro e w3 ⟨rfl,M,nv,b,hq,tb,ht3,hn⟩
 have H3:=Lib.hid (H2.out.trans ht3)
 have HN:=Lib.hid hn
 have HQM:=Lib.hid hq
 have TB:=Lib.hid tb
 clear ht3 hn hq tb hr2
 have hr3:w3.cell? ⟨rb,0,none⟩=some (.pointer (some ⟨s.wb,0,none⟩)):=by rw[H3.out.turned.cell HL.out HRN.out];exact HR.out
 go_wp2_with fail
 refine(CW s d M QA QD nv b rb _ H3.out.at' HN.out TB.out (HM.out M HQM.out) HQ.out hr3 (Nat.lt_of_lt_of_le HL.out H3.out.turned.size) HRN.out (fun p1 p2 c1 c2 wx hx=>HA.out M p1 p2 c1 c2 wx HQM.out hx) HI.out).mono ?_
 rintro e w4 ⟨rfl,d',p',hq,ht4⟩
 have H4:=Lib.hid (bA.ahead HB.out (H3.out.trans ht4))
 have HQD:=Lib.hid hq
 clear ht4 hq
 go_wp2_with fail
 go_ret
 exact⟨rfl,d',p',HQD.out,H4.out⟩
theorem CX (s:bL) (d:ay) (D:Nat→ay→Prop) (p:Option Addr) (w:World) (h:bO w s d (.slice p 0 0)) (h0:D 0 d) (hS:∀k x,k≤4→D k x→x.state=(k:Int)+1)
  (hR:∀(k:Nat) (x:ay) (q:Option Addr) (wx:World),k<4→D k x→bO wx s x (.slice q 0 0)→Calls Tryz.prog 14 #[.pointer (some ⟨s.wb,0,none⟩)] wx fun e w'=>e= .returned (.int .i64 0)∧∃(d':ay) (p':Option Addr),D (k+1) d'∧bA wx w' s x d' (.slice p' 0 0)):
  Calls Tryz.prog 6 #[.pointer (some ⟨s.wb,0,none⟩), .int .i64 9] w fun e w'=>e= .returned (.tuple #[.int .i64 4, .int .i64 0])∧∃(d':ay) (p':Option Addr),D 4 d'∧bA w w' s d d' (.slice p' 0 0):=by
 have HH:=Lib.hid h
 have HD:=Lib.hid h0
 have HS:=Lib.hid hS
 have HRO:=Lib.hid hR
 have hmk:∀(fn:Fn) (first cap:Array Value) (w:World),(Instr.makeFunc fn first cap).run Tryz.prog w= .ok (.func fn first cap) w:=fun _ _ _ _=>rfl
 clear h h0 hS hR
 go_enter Tryz.func6,Tryz.ntmps6
 go_upto_region 1 with fail
 have B1:ac (w.alloc (Obj.cells #[.pointer (some ⟨s.wb,0,none⟩)] 28)) w.heap.size [.pointer (some ⟨s.wb,0,none⟩)] 28:=ac.new w [.pointer (some ⟨s.wb,0,none⟩)] 28
 have e1:Below w.heap.size w (w.alloc (Obj.cells #[.pointer (some ⟨s.wb,0,none⟩)] 28)):=(Below.refl _ _).alloc (Nat.le_refl _) _
 generalize w.alloc (Obj.cells #[.pointer (some ⟨s.wb,0,none⟩)] 28)=w1 at B1 e1 ⊢
 obtain⟨rb,hrb⟩:∃r,r=w.heap.size:=⟨_,rfl⟩
 rw[←hrb]at B1 ⊢
 have l1:w.heap.size≤rb:=by rw[hrb];exact Nat.le_refl _
 have HRN:=Lib.hid (show rb∉s.nb::d.foot s.xb from fun hm=>(List.mem_cons.1 hm).elim (fun e=>by have:=HH.out.net.lt;rw[←e]at this;omega) (fun hx=>by have:=HH.out.ver.foot_lt rb hx;omega))
 have HL:=Lib.hid B1.lt
 have HR:=Lib.hid (show w1.cell? ⟨rb,0,none⟩=some (.pointer (some ⟨s.wb,0,none⟩))from B1.cell (i:=0) rfl)
 have hr1:=HR.out
 have HB:=Lib.hid e1
 have H1:=Lib.hid (bA.refl (HH.out.below HB.out))
 clear B1 e1 l1 hrb HH
 go_wp2_with fail
 refine(eE s d _ _ H1.out.at').mono ?_
 rintro e w' ⟨rfl,hw⟩
 subst hw
 go_wp2_with fail
 go_loopw [7] (fun n wr=>∃k:Nat,k≤4∧n= .int .i64 k∧Hid (∃(x:ay) (q:Option Addr),D k x∧bA w' wr s d x (.slice q 0 0))) (fun n _=>4-(intOf n).toNat)
 case atStart=>exact⟨0,by decide,rfl,Lib.hid ⟨d,p,HD.out,H1.out⟩⟩
 case round=>
  obtain⟨k,hk,rfl,hx⟩:=hrel
  obtain⟨x,q,hx1,hx2⟩:=hx.out
  have HX:=Lib.hid hx1
  have H2:=Lib.hid hx2
  have bE:=HS.out k x hk hx1
  have hr2:wr.cell? ⟨rb,0,none⟩=some (.pointer (some ⟨s.wb,0,none⟩)):=by rw[H2.out.turned.cell HL.out HRN.out];exact HR.out
  clear hx hx1 hx2 hr1
  go_wp2_with fail
  refine(zB s x _ rb _ H2.out.at' hr2).mono ?_
  rintro e w3 ⟨he,hw3⟩
  have HW:=Lib.hid (show Below wr.heap.size wr w3 by rw[hw3];exact(Below.refl _ _).drew)
  clear hw3
  rw[bE]at he
  have H3:=Lib.hid (H2.out.below HW.out)
  have hr3:w3.cell? ⟨rb,0,none⟩=some (.pointer (some ⟨s.wb,0,none⟩)):=by rw[H3.out.turned.cell HL.out HRN.out];exact HR.out
  clear hr2 bE HW
  by_cases hlt:k<4
  ·have he':e= .returned (.bool true):=by rw[he,decide_eq_true (show(1:Int)≤(k:Int)+1 by omega),decide_eq_true (show(k:Int)+1≤4 by omega)];rfl
   have hne:((k:Int)==9)=false:=beq_eq_false_iff_ne.2 (by omega)
   have hne':¬((k:Int)=9):=by omega
   clear he
   subst he'
   go_wp2_with fail
   refine(HRO.out k x q _ hlt HX.out H3.out.at').mono ?_
   rintro e w4 ⟨rfl,d',p',hd,ht⟩
   have HX4:=Lib.hid hd
   have H4:=Lib.hid (H3.out.trans ht)
   clear hd ht hr3
   go_wp2_with fail
   go_roundw
   case rel=>exact⟨k+1,by omega,by go_num,Lib.hid ⟨d',p',HX4.out,H4.out⟩⟩
   case measure=>simp[intOf];omega
  ·obtain rfl:k=4:=by omega
   have he':e= .returned (.bool false):=he
   clear he
   subst he'
   go_wp2_with fail
   go_ret2
   exact⟨rfl,x,q,HX.out,bA.ahead HB.out H3.out⟩
open Go.ChangeShapes Go.WideShapes Go.Deep
structure fS where
 kind:Int
 lba:Int
 epoch:Int
 time:Int
 data:ByteArray
 name:ByteArray
 kp:Option Addr
 kn:Nat
 kc:Nat
def fS.cells (c:fS):List Value:=[.int .i64 c.kind, .int .i64 c.lba, .int .i64 c.epoch, .int .i64 c.time, .string c.data, .string c.name, .slice c.kp c.kn c.kc]
def fS.v (c:fS):Value:= .agg c.cells.toArray
section
variable {H:Type} {enc:TypeId×Value→H} {w:World} {base:Nat} {spare:Nat→Bool} {held:Bool}
theorem Ey {t e:TypeId} {fuel:Nat} {cs:List Value} {x:DataW H×List MemPlace} (ht:Tryz.prog.underlying t=some (.slice e)) (h:DataW.trod enc Tryz.prog w base spare held fuel t cs=some x):∃p n c,cs=[.slice p n c]∧n≤9223372036854775807:=by
 rcases DataW.trod_slice ht h with h0|⟨a,len,cap,elems,rest,n,_,rfl,rfl,hb,hl,hm,_⟩
 ·exact⟨none,0,0,by first|exact h0.1|exact h0,by omega⟩
 ·exact⟨some a,len,cap,rfl,by have:maxLen=9223372036854775807:=rfl;omega⟩
theorem CY {fuel:Nat} {cs:List Value} {x:DataW H×List MemPlace} (h:DataW.trod enc Tryz.prog w base spare held fuel 24 cs=some x):∃c:fS,cs=c.cells∧c.kn≤9223372036854775807:=by
 obtain⟨xs,n,_,_,hl,hlen,hf⟩:=DataW.trod_struct Tryz.underlying24 h
 have hc:Tryz.prog.cellsOf 24=7:=by kernel_rfl
 have kk0:Tryz.prog.cellsOf 22=1:=by kernel_rfl
 have kk1:Tryz.prog.cellsOf 3=1:=by kernel_rfl
 have kk2:Tryz.prog.cellsOf 9=1:=by kernel_rfl
 rw[hc]at hl
 match xs,hlen with
 |[y0,y1,y2,y3,y4,y5,y6],_=>
  have g0:DataW.trod enc Tryz.prog w base spare held n 3 (List.take (Tryz.prog.cellsOf 3) (List.drop 0 cs))=some y0:=hf 0 _ rfl
  rw[kk1]at g0
  have g1:DataW.trod enc Tryz.prog w base spare held n 3 (List.take (Tryz.prog.cellsOf 3) (List.drop 1 cs))=some y1:=hf 1 _ rfl
  rw[kk1]at g1
  have g2:DataW.trod enc Tryz.prog w base spare held n 3 (List.take (Tryz.prog.cellsOf 3) (List.drop 2 cs))=some y2:=hf 2 _ rfl
  rw[kk1]at g2
  have g3:DataW.trod enc Tryz.prog w base spare held n 3 (List.take (Tryz.prog.cellsOf 3) (List.drop 3 cs))=some y3:=hf 3 _ rfl
  rw[kk1]at g3
  have g4:DataW.trod enc Tryz.prog w base spare held n 9 (List.take (Tryz.prog.cellsOf 9) (List.drop 4 cs))=some y4:=hf 4 _ rfl
  rw[kk2]at g4
  have g5:DataW.trod enc Tryz.prog w base spare held n 9 (List.take (Tryz.prog.cellsOf 9) (List.drop 5 cs))=some y5:=hf 5 _ rfl
  rw[kk2]at g5
  have g6:DataW.trod enc Tryz.prog w base spare held n 22 (List.take (Tryz.prog.cellsOf 22) (List.drop 6 cs))=some y6:=hf 6 _ rfl
  rw[kk0]at g6
  obtain⟨n0,e0,_,f0⟩:=DataW.trod_int Tryz.underlying3 g0
  obtain⟨n1,e1,_,f1⟩:=DataW.trod_int Tryz.underlying3 g1
  obtain⟨n2,e2,_,f2⟩:=DataW.trod_int Tryz.underlying3 g2
  obtain⟨n3,e3,_,f3⟩:=DataW.trod_int Tryz.underlying3 g3
  obtain⟨n4,e4,_,f4⟩:=DataW.trod_string Tryz.underlying9 g4
  obtain⟨n5,e5,_,f5⟩:=DataW.trod_string Tryz.underlying9 g5
  obtain⟨p6,n6,c6,e6,f6⟩:=Ey Tryz.underlying22 g6
  have ee:cs=(cs.drop 0).take 1++((cs.drop 1).take 1++((cs.drop 2).take 1++((cs.drop 3).take 1++((cs.drop 4).take 1++((cs.drop 5).take 1++((cs.drop 6).take 1)))))):=by
   match cs,hl with
   |[_,_,_,_,_,_,_],_=>rfl
  rw[ee,e0,e1,e2,e3,e4,e5,e6]
  exact⟨⟨n0,n1,n2,n3,n4,n5,p6,n6,c6⟩,rfl,f6⟩
theorem Gi {v:Value} {d:DataW H} {ps:List MemPlace} (hv:∃cs,v= .agg cs∧cs.size=Tryz.prog.cellsOf 24) (h:DataW.Trod enc Tryz.prog w base spare held 24 v d ps):∃c:fS,v=c.v∧c.kn≤9223372036854775807:=by
 obtain⟨cs,rfl,_⟩:=hv
 obtain⟨fuel,hf⟩:=h
 obtain⟨c,hx,hfit⟩:=CY hf
 refine⟨c, ?_,hfit⟩
 have:cs.toList=c.cells:=by simpa[Value.cells]using hx
 show Value.agg cs=Value.agg c.cells.toArray
 rw[←this]
end
theorem Aj {v:bf} (h:lS v) {cnt:Int} (n0:0≤cnt) (n1:cnt≤4096) {s t:ByteArray} (hs:s.size=32) (ht:t.size=32):
  gA (v.sealed++[⟨aY v cnt s,t⟩]) (v.sealed.length:Int)=(⟨(v.sealed.length:Int),aY v cnt s,cT v.sealed,t⟩,0):=by
 have hr:rcpAt (v.sealed++[⟨aY v cnt s,t⟩]) v.sealed.length ⟨aY v cnt s,t⟩=⟨(v.sealed.length:Int),aY v cnt s,cT v.sealed,t⟩:=by
  unfold rcpAt
  rw[List.take_left]
 have ho:bX (⟨(v.sealed.length:Int),aY v cnt s,cT v.sealed,t⟩:aH)=true:=by
  have h1:=jG h n0 n1 hs
  have h2:=h.last
  have h3:=h.sealed
  have h4:(v.sealed.length:Int)≤4294967295:=by omega
  have h5:(aY v cnt s).kind=1:=rfl
  simp[bX,h1,h2,h4,h5,ht]
 have hc:iz (v.sealed++[⟨aY v cnt s,t⟩]) (v.sealed.length:Int)=some ⟨aY v cnt s,t⟩:=by
  simp[iz,aY]
 unfold gA
 rw[hc]
 dsimp only
 rw[Int.toNat_natCast,hr,if_pos ho]
def yS (v:bf) (cnt:Int) (s t bl nk kb q nb:ByteArray):bf:={v with used:=v.used+1,last:=fO v v.clock,d:=jF v bl kb q nb,key:=nk,sealed:=v.sealed++[⟨aY v cnt s,t⟩],epoch:=v.epoch+1,now:=v.clock}
theorem CZ (i:aR) (v:bf) (cnt:Int) (l:List UInt8) (c:fS) (w:World) (h:aP w i v) (hrv:i.rv= .pointer none) (hc:lS v) (hsc:zy i v cnt l) (hk:c.kind=5):
  Calls Tryz.prog 23 #[.pointer (some ⟨i.vb,0,none⟩),c.v] w fun e w'=>e= .returned (.agg (eA 0).toArray)∧∃(s t bl nk kb q nb:ByteArray) (sv:Value),ak s l∧ak t (lw v.key.data.toList (cT v.sealed).data.toList (v.sealed.length:Int) (aY v cnt s))∧ak bl (holdL (cz (aY v cnt s)++t.data.toList))∧ak nk (dw v.key.data.toList [110,101,120,116] [])∧ak kb (fi (v.last.epoch+1) nk.data.toList)∧ak q (eB (fO v v.clock))∧nb=(⟨(List.replicate 4096 0).toArray⟩:ByteArray)∧
   cE w w' i v {i with sv:=sv} (yS v cnt s t bl nk kb q nb):=by
 obtain⟨kind,lba,epoch,time,data,name,kp,kn,kc⟩:=c
 simp only at hk
 subst hk
 have H0:=Lib.hid h
 have HC:=Lib.hid hc
 have HSC:=Lib.hid hsc
 have HRV:=Lib.hid hrv
 clear h hc hsc hrv
 go_enter Tryz.func23,Tryz.ntmps23
 go_wp2_with (first
  |((with_reducible refine ai 24 (.tmp 1) (fS.cells ⟨5,lba,epoch,time,data,name,kp,kn,kc⟩) (some 3) ?hgd ?ho ?hd ?hx ?_);(case hgd|ho|hd|hx=>rfl);(intro b3 w1 l1 B1 e1 z1))
  |((with_reducible refine af 43 _ rk (some 4) ?hgd ?ho ?hd ?_);(case hgd|ho|hd=>rfl);(intro b4 w2 l2 B2 e2 z2))
  |fail)
 have hb2:Below w.heap.size w w2:=(e1.mono l1).trans (e2.mono (Nat.le_trans l1 (Nat.le_trans (Nat.le_of_lt z1) l2)))
 have HL4:=Lib.hid (Nat.le_trans l1 (Nat.le_trans (Nat.le_of_lt z1) l2))
 have HX3:=Lib.hid (B1.below e2 (Nat.lt_of_lt_of_le z1 l2))
 have HX4:=Lib.hid B2
 have HBE2:=Lib.hid hb2
 have H2:=Lib.hid (H0.out.below hb2)
 have HN4:=Lib.hid (H0.out.fresh HL4.out)
 clear B1 B2 e1 e2 l1 l2 z1 z2 hb2
 refine(eC i v _ H2.out).mono ?_
 rintro e w' ⟨rfl,rfl⟩
 have q0:=HX3.out.cell (i:=0) rfl
 go_wp2_with fail
 refine(qb i v cnt l _ H2.out HRV.out HC.out HSC.out).mono ?_
 rintro e w3 ⟨s,t,bl,nk,kb,q,nb,sv,ts,tt,tbl,tn,tkb,tq,hnb,he,ht⟩
 rw[Aj HC.out HSC.out.n0 HSC.out.n1 (by rw[ts.size,HSC.out.len]) (by rw[tt.size,fg])]at he
 dsimp only[aH.v]at he
 subst he
 have HX:=Lib.hid (And.intro ts (And.intro tt (And.intro tbl (And.intro tn (And.intro tkb (And.intro tq hnb))))))
 have HT:=Lib.hid (cE.ahead HBE2.out ht)
 have HX43:=Lib.hid (ht.turned.blk HX4.out HN4.out)
 clear ts tt tbl tn tkb tq hnb ht q0
 go_wp2_with (first
  |((with_reducible refine ao 43 ?parts (eA 0) ?hg ?ho ?hf ?_);(case hg|ho=>rfl);(case hf=>exact kW 0))
  |((with_reducible refine ae 43 (.tmp 4) (.tmp 87) b4 (eA 0) (eA 0) 43 HX43.out rfl jk (rl 0) ?hgd ?ho ?hx ?hy ?_);(case hgd|ho|hx|hy=>rfl);(intro w5 B5 o5))
  |fail)
 (try simp only[Exit.inBlock,Exit.then]);refine bodyPost_ret (dO rfl _ _ B5.range rfl Tryz.underlying43 rfl jk) rfl ⟨rfl,s,t,bl,nk,kb,q,nb,sv,HX.out.1,HX.out.2.1,HX.out.2.2.1,HX.out.2.2.2.1,HX.out.2.2.2.2.1,HX.out.2.2.2.2.2.1,HX.out.2.2.2.2.2.2,HT.out.away (o5.turned (by simp)) (HT.out.at'.notype HX43.out.ty (by decide)) HL4.out⟩
theorem tG:(jS ar.zero).length≤100:=by decide
theorem C0 {m:aa} (h:aM m=true) (ht:m.told=ar.zero):(dQ m).length≤500:=by
 have hs:=(cS h).says
 have hl:m.last.data.toList.length≤32:=(cS h).last
 unfold dQ
 unfold aF at hs
 split
 ·simp[beBytes_length]
 next h1=>
 split
 ·simp only[List.length_append,beBytes_length];omega
 next h4=>
 split
 ·simp[beBytes_length]
 next h5=>
 split
 ·next h6=>
  simp[h6]at hs
  have:=cP hs.1.2
  have h2:m.sld.tag.data.toList.length=m.sld.tag.size:=rfl
  simp only[List.length_append,beBytes_length];omega
 next h6=>
 split
 ·simp[js,beBytes_length]
 next h7=>
 split
 ·next h8=>rw[ht];exact Nat.le_trans tG (by decide)
 next h8=>
 split
 ·next h10=>simp[h10]at hs;have:=gY hs;omega
 ·simp
theorem dW.of {m:aa} (h:aM m=true) (ht:m.told=ar.zero) (hc:m.rcp=aH.zero) (h1:m.sld.r.root.size≤1048576) (h2:m.sld.r.name.size≤1048576) (h3:Fits m.sld.r.epoch):dW m:=by
 refine⟨h,⟨by rw[ht];decide,by rw[ht];decide,by rw[ht];decide,by rw[ht];decide,h1,h2,h3,by rw[hc];decide,by rw[hc];decide,by rw[hc];unfold Fits;decide,by rw[hc];unfold Fits;decide⟩,ht, ?_⟩
 have e1:=C0 h ht
 have e2:m.nonce.data.toList.length≤32:=(cS h).nonce
 have e3:m.tag.data.toList.length≤32:=(cS h).tag
 unfold dj eU
 simp only[List.length_append,beBytes_length];omega
theorem lj:Fits 0:=by unfold Fits;decide
theorem xZ:dd ar.zero=true:=by decide
section
variable {n t la:ByteArray} {x:ax}
theorem ok1 (hn:n.size=32):aM {aa.zero with kind:=1,nonce:=n}=true:=by simp[aM,aF,al,aJ,dF,aa.zero,hn]
theorem ok2 (hn:n.size=32):aM {aa.zero with kind:=2,epoch:=1,nonce:=n}=true:=by simp[aM,aF,al,aJ,dF,aa.zero,hn,bz]
theorem IH (hn:n.size=32) (ht:t.size=32):aM {aa.zero with kind:=3,epoch:=1,nonce:=n,tag:=t}=true:=by simp[aM,aF,al,aJ,dF,aa.zero,hn,ht,bz]
theorem II (hn:n.size=32) (ht:t.size=32) (hl:la.size=32):aM {aa.zero with kind:=4,epoch:=1,seq:=1,nonce:=n,tag:=t,last:=la}=true:=by simp[aM,aF,al,aJ,dF,aa.zero,hn,ht,hl,bz]
theorem IZ (hn:n.size=32):aM {aa.zero with kind:=5,nonce:=n}=true:=by simp[aM,aF,al,aJ,dF,aa.zero,hn]
theorem I0 (hn:n.size=32) (hr:aE x.r=true) (ht:x.tag.size=32):aM {aa.zero with kind:=6,nonce:=n,sld:=x}=true:=by simp[aM,aF,al,aJ,dF,aa.zero,hn,hr,ht]
theorem I1 (hn:n.size=32):aM {aa.zero with kind:=7,nonce:=n}=true:=by simp[aM,aF,al,aJ,dF,aa.zero,hn,dX,bz]
theorem I2 (hn:n.size=32):aM {aa.zero with kind:=8,nonce:=n}=true:=by
 have ht:=xZ
 simp[aM,aF,al,aJ,dF,aa.zero,hn,ht]
theorem E6 (hn:n.size=32):dW {aa.zero with kind:=1,nonce:=n}:= .of (ok1 hn) rfl rfl (show(0:Nat)≤1048576 by decide) (show(0:Nat)≤1048576 by decide) lj
theorem Iy (hn:n.size=32):dW {aa.zero with kind:=2,epoch:=1,nonce:=n}:= .of (ok2 hn) rfl rfl (show(0:Nat)≤1048576 by decide) (show(0:Nat)≤1048576 by decide) lj
theorem Iz (hn:n.size=32) (ht:t.size=32):dW {aa.zero with kind:=3,epoch:=1,nonce:=n,tag:=t}:= .of (IH hn ht) rfl rfl (show(0:Nat)≤1048576 by decide) (show(0:Nat)≤1048576 by decide) lj
theorem E7 (hn:n.size=32) (ht:t.size=32) (hl:la.size=32):dW {aa.zero with kind:=4,epoch:=1,seq:=1,nonce:=n,tag:=t,last:=la}:= .of (II hn ht hl) rfl rfl (show(0:Nat)≤1048576 by decide) (show(0:Nat)≤1048576 by decide) lj
theorem E8 (hn:n.size=32):dW {aa.zero with kind:=5,nonce:=n}:= .of (IZ hn) rfl rfl (show(0:Nat)≤1048576 by decide) (show(0:Nat)≤1048576 by decide) lj
theorem IA (hn:n.size=32) (hr:aE x.r=true) (ht:x.tag.size=32) (h1:x.r.root.size≤1048576) (h2:x.r.name.size≤1048576) (h3:Fits x.r.epoch):dW {aa.zero with kind:=6,nonce:=n,sld:=x}:= .of (I0 hn hr ht) rfl rfl h1 h2 h3
theorem E9 (hn:n.size=32):dW {aa.zero with kind:=7,nonce:=n}:= .of (I1 hn) rfl rfl (show(0:Nat)≤1048576 by decide) (show(0:Nat)≤1048576 by decide) lj
theorem IB (hn:n.size=32):dW {aa.zero with kind:=8,nonce:=n}:= .of (I2 hn) rfl rfl (show(0:Nat)≤1048576 by decide) (show(0:Nat)≤1048576 by decide) lj
end
structure pH (i:aR) (v:bf) (R:ByteArray) (x:ax):Prop where
 size:R.size=32
 key:ak v.key (iV R.data.toList 0 1)
 ep:v.epoch=1
 sealed:v.sealed=[x]
 kind:x.r.kind=1
 repoch:x.r.epoch=0
 count:x.r.count=0
 time:0≤x.r.time
 root:ak x.r.root (de [])
 name:x.r.name.size≤1048576
 ok:aE x.r=true
 tag:ak x.tag (lw (iV R.data.toList 0 0) (cT []).data.toList 0 x.r)
 xv:i.xv= .slice none 0 0
 vers:v.vers=[]
 first:v.last.geo.first≤0
 lbas:0<v.last.geo.lbas
 gone:v.G.atKey (.int .i64 0) (.lit (.bool false))= .lit (.bool false)
structure Ak (R:ByteArray) (d:ay):Prop where
 root:d.root=R
 nonce:d.nonce.size=32
 na:d.na=1
 verd:d.verd= .slice none 0 0
 all:d.all= .slice none 0 0
def ge (R:ByteArray) (x:ax):Nat→ay→Prop
 |0,d=>Ak R d∧d.state=1∧d.l=[]∧d.lv= .slice none 0 0∧d.bk=none
 |1,d=>Ak R d∧d.state=2∧d.epoch=1∧d.l=[]∧d.lv= .slice none 0 0∧d.bk=none
 |2,d=>Ak R d∧d.state=3∧d.head.epoch=1∧d.head.seq=1∧d.head.last=x.tag∧d.l=[]∧d.lv= .slice none 0 0∧d.bep=0∧d.bnow=0∧∃k,d.bk=some k∧k.bb≠k.c2
 |3,d=>Ak R d∧d.state=4∧d.l=[x]∧∃k,d.bk=some k
 |_,d=>d.state=5∧d.why=0
theorem ge.state {R:ByteArray} {x:ax}:∀(k:Nat) (d:ay),k≤4→ge R x k d→d.state=(k:Int)+1
 |0,_,_,h=>h.2.1
 |1,_,_,h=>h.2.1
 |2,_,_,h=>h.2.1
 |3,_,_,h=>h.2.1
 |4,_,_,h=>h.1
 |k+5,_,hk,_=>by omega
def Am (w:World) (v:Value):Prop:=v= .pointer none∨∃b,v= .pointer (some ⟨b,0,none⟩)∧b<w.heap.size∧w.cell? ⟨b,2,none⟩=some (.pointer none)
theorem Am.below {w w':World} {v:Value} (h:Am w v) (hb:Below w.heap.size w w'):Am w' v:=by
 rcases h with h|⟨b,h,hl,hc⟩
 ·exact .inl h
 ·exact .inr ⟨b,h,Nat.lt_of_lt_of_le hl hb.size,by rw[hb.cell (by show b<w.heap.size;exact hl)];exact hc⟩
theorem jz {fn:Func} {p u:Tmp} {ty:TypeId} {cs:List Value} {d:TypeDesc} (h:fn.results=#[.cell p ty, .tmp u]) (tmps:Array Value) (w:World) {b:Nat} (hb:w.rangeAt b 0 cs) (hp:tmps.getD p undef= .pointer (some ⟨b,0,none⟩))
  (hu:Tryz.prog.underlying ty=some d) (hd:d.isRow=true) (hi:(Tryz.prog.info? ty).map (·.size)=some cs.length):
  (results fn tmps).run Tryz.prog w= .ok (.tuple #[.agg cs.toArray,tmps.getD u undef]) w:=by
 rw[results_cell_tmp h,hp]
 have e:=run_loadVar_mid (P:=Tryz.prog) w b 0 ty cs _ hb hu hd hi
 simp only[asAddr,Sem.run_pure,Result.andThen_ok,e]
theorem lk (s:ByteArray):Tryz.prog.built 73 [(3, .string s)]=some (({aa.zero with nonce:=s}:aa).cells (.slice none 0 0) (.slice none 0 0)).toArray:=by kernel_rfl
theorem yi (vb:Nat) (d:ay) (w:World) (h:bq w vb d) (hs:d.state=1):
  Calls Tryz.prog 24 #[.pointer (some ⟨vb,0,none⟩)] w fun e w'=>e= .returned (.tuple #[({aa.zero with kind:=1,nonce:=d.nonce}:aa).v (.slice none 0 0) (.slice none 0 0), .bool true])∧Below w.heap.size w w':=by
 have HH:=Lib.hid h
 have HS:=Lib.hid hs
 clear h hs
 go_enter Tryz.func24,Tryz.ntmps24
 go_wp2_with (first
  |((with_reducible refine af 73 bJ ed (some 2) ?hgd ?ho ?hd ?_);(case hgd|ho|hd=>rfl);(intro b1 w1 l1 B1 e1 z1))
  |fail)
 have HB1:=Lib.hid (show Below w.heap.size w w1 from e1.mono l1)
 have f1:w.heap.size≤b1:=l1
 have HX1:=Lib.hid B1
 have HV1:=Lib.hid (HH.out.below HB1.out)
 clear B1 e1 l1 z1
 refine(dV vb _ _ HV1.out).mono ?_
 rintro e w2 ⟨rfl,hw2⟩
 subst hw2
 have v6:w1.cell? ⟨vb,6,none⟩=some (.int .i64 1):=by rw[←HS.out];exact HV1.out.blk.cell (i:=6) rfl
 have v8:w1.cell? ⟨vb,8,none⟩=some (.string d.nonce):=HV1.out.blk.cell (i:=8) rfl
 go_upto_region 4 with(first
  |((with_reducible refine ao 73 ?parts (({aa.zero with nonce:=d.nonce}:aa).cells (.slice none 0 0) (.slice none 0 0)) ?hg ?ho ?hf ?_);(case hg|ho=>rfl);(case hf=>exact lk _))
  |((with_reducible refine af 73 bJ ed (some 4) ?hgd ?ho ?hd ?_);(case hgd|ho|hd=>rfl);(intro b3 w3 l3 B3 e3 z3))
  |((with_reducible refine ae 73 (.tmp 4) (.tmp 14) b3 bJ (({aa.zero with nonce:=d.nonce}:aa).cells (.slice none 0 0) (.slice none 0 0)) 73 B3 rfl ap (cr bR bR) ?hgd ?ho ?hx ?hy ?_);(case hgd|ho|hx|hy=>rfl);(intro w4 B4 o4))
  |fail)
 have hb4:Below w1.heap.size w1 w4:=o4.below (e3.mono l3) l3
 have HV4:=Lib.hid (HV1.out.below hb4)
 have HX4:=Lib.hid (HX1.out.below hb4 HX1.out.lt)
 have HY4:=Lib.hid B4
 have H14:=Lib.hid hb4
 have f13:w1.heap.size≤b3:=l3
 have h13:b1≠b3:=by have:=HX1.out.lt;omega
 have f3:w.heap.size≤b3:=by have:=HB1.out.size;omega
 have HB4:=Lib.hid (HB1.out.trans (hb4.mono HB1.out.size))
 clear B3 B4 o4 e3 l3 z3 hb4 v6 v8
 have v6:w4.cell? ⟨vb,6,none⟩=some (.int .i64 1):=by rw[←HS.out];exact HV4.out.blk.cell (i:=6) rfl
 go_wp2_with (first
  |((with_reducible refine aj 3 (.tmp 23) (.const (.int .i64 1)) b3 0 (.int .i64 1) _ _ HY4.out (Nat.le_of_ble_eq_true rfl) (by kernel_rfl) rfl ?hgd ?ho ?hx ?hy ?_);(case hgd|ho|hx|hy=>rfl);(intro w5 B5 o5);have HX5:=o5.blk HX4.out h13;replace B5:ac w5 b3 (({aa.zero with kind:=1,nonce:=d.nonce}:aa).cells (.slice none 0 0) (.slice none 0 0)) 73:=B5)
  |((with_reducible refine ag 73 (.tmp 4) b3 0 (({aa.zero with kind:=1,nonce:=d.nonce}:aa).cells (.slice none 0 0) (.slice none 0 0)) _ (some 64) (B5).range Tryz.underlying73 rfl ap ?hg ?ho ?hds ?hx ?_);(case ho|hg|hds|hx=>rfl))
  |((with_reducible refine ae 73 (.tmp 2) (.tmp 64) b1 bJ (({aa.zero with kind:=1,nonce:=d.nonce}:aa).cells (.slice none 0 0) (.slice none 0 0)) 73 HX5 rfl ap (cr bR bR) ?hgd ?ho ?hx ?hy ?_);(case hgd|ho|hx|hy=>rfl);(intro w9 B9 o9))
  |fail)
 (try simp only[Exit.inBlock,Exit.then]);refine bodyPost_ret (jz rfl _ _ B9.range rfl Tryz.underlying73 rfl ap) rfl ⟨rfl,o9.below (o5.below HB4.out f3) f1⟩
theorem yj (vb:Nat) (d:ay) (n:Nat) (w:World) (h:bq w vb d) (hs:d.state=2) (hr:d.root.size=32) (hn:n≤4096) (he:(n:Int)=d.epoch) (hno:d.nonce.size=32) (hok:(al 3&&aM ({aa.zero with kind:=3,epoch:=d.epoch,nonce:=d.nonce,tag:=d.nonce}:aa))=true):
  Calls Tryz.prog 24 #[.pointer (some ⟨vb,0,none⟩)] w fun e w'=>(∃t:ByteArray,e= .returned (.tuple #[({aa.zero with kind:=3,epoch:=d.epoch,nonce:=d.nonce,tag:=t}:aa).v (.slice none 0 0) (.slice none 0 0), .bool true])∧ak t (jj (iV d.root.data.toList 0 n) ({aa.zero with kind:=3,epoch:=d.epoch,nonce:=d.nonce}:aa)))∧Below w.heap.size w w':=by
 have HR:=Lib.hid hr
 have HE:=Lib.hid he
 have HOK:=Lib.hid hok
 clear hr he hok
 have HH:=Lib.hid h
 have HS:=Lib.hid hs
 clear h hs
 go_enter Tryz.func24,Tryz.ntmps24
 go_wp2_with (first
  |((with_reducible refine af 73 bJ ed (some 2) ?hgd ?ho ?hd ?_);(case hgd|ho|hd=>rfl);(intro b1 w1 l1 B1 e1 z1))
  |fail)
 have HB1:=Lib.hid (show Below w.heap.size w w1 from e1.mono l1)
 have f1:w.heap.size≤b1:=l1
 have HX1:=Lib.hid B1
 have HV1:=Lib.hid (HH.out.below HB1.out)
 clear B1 e1 l1 z1
 refine(dV vb _ _ HV1.out).mono ?_
 rintro e w2 ⟨rfl,hw2⟩
 subst hw2
 have v6:w1.cell? ⟨vb,6,none⟩=some (.int .i64 2):=by rw[←HS.out];exact HV1.out.blk.cell (i:=6) rfl
 have v8:w1.cell? ⟨vb,8,none⟩=some (.string d.nonce):=HV1.out.blk.cell (i:=8) rfl
 go_upto_region 4 with(first
  |((with_reducible refine ao 73 ?parts (({aa.zero with nonce:=d.nonce}:aa).cells (.slice none 0 0) (.slice none 0 0)) ?hg ?ho ?hf ?_);(case hg|ho=>rfl);(case hf=>exact lk _))
  |((with_reducible refine af 73 bJ ed (some 4) ?hgd ?ho ?hd ?_);(case hgd|ho|hd=>rfl);(intro b3 w3 l3 B3 e3 z3))
  |((with_reducible refine ae 73 (.tmp 4) (.tmp 14) b3 bJ (({aa.zero with nonce:=d.nonce}:aa).cells (.slice none 0 0) (.slice none 0 0)) 73 B3 rfl ap (cr bR bR) ?hgd ?ho ?hx ?hy ?_);(case hgd|ho|hx|hy=>rfl);(intro w4 B4 o4))
  |fail)
 have hb4:Below w1.heap.size w1 w4:=o4.below (e3.mono l3) l3
 have HV4:=Lib.hid (HV1.out.below hb4)
 have HX4:=Lib.hid (HX1.out.below hb4 HX1.out.lt)
 have HY4:=Lib.hid B4
 have H14:=Lib.hid hb4
 have f13:w1.heap.size≤b3:=l3
 have h13:b1≠b3:=by have:=HX1.out.lt;omega
 have f3:w.heap.size≤b3:=by have:=HB1.out.size;omega
 have HB4:=Lib.hid (HB1.out.trans (hb4.mono HB1.out.size))
 clear B3 B4 o4 e3 l3 z3 hb4 v6 v8
 have v6:w4.cell? ⟨vb,6,none⟩=some (.int .i64 2):=by rw[←HS.out];exact HV4.out.blk.cell (i:=6) rfl
 have v10:w4.cell? ⟨vb,10,none⟩=some (.int .i64 d.epoch):=HV4.out.blk.cell (i:=10) rfl
 have y0:=HY4.out.cell (i:=0) rfl
 have z0:=HY4.out.free 0
 have y1:=HY4.out.cell (i:=1) rfl
 have z1:=HY4.out.free 1
 obtain⟨W,hW⟩:∃W,W=((w4.setCell ⟨b3,0,none⟩ (.int .i64 3)).setCell ⟨b3,1,none⟩ (.int .i64 d.epoch)):=⟨_,rfl⟩
 have HWY:Hid (ac W b3 (({aa.zero with kind:=3,epoch:=d.epoch,nonce:=d.nonce}:aa).cells (.slice none 0 0) (.slice none 0 0)) 73):=Lib.hid (by rw[hW];exact((HY4.out.set 0 (.int .i64 3)).set 1 (.int .i64 d.epoch)))
 have oW:bH b3 w4 W:=by rw[hW];exact((bH.refl b3 w4).setCell 0 _).setCell 1 _
 have HWX:=Lib.hid (oW.blk HX4.out h13)
 have HVW:=Lib.hid (HV1.out.below (oW.below H14.out f13))
 have HBW:=Lib.hid (oW.below HB4.out f3)
 have HWE:=Lib.hid hW
 clear oW hW
 go_upto_region 9 with fail
 go_cut []from 26 to 32 (fun wx=>wx=W.drew)
 case first=>
  go_region_with (fail)
  all_goals
   go_wp2_with fail
   go_meet
   rw[HWE.out]
 case rest=>
 clear v6 v10 y0 y1 z0 z1
 subst hcut
 obtain⟨m,hm⟩:∃m:aa,m=({aa.zero with kind:=3,epoch:=d.epoch,nonce:=d.nonce}:aa):=⟨_,rfl⟩
 have HM:=Lib.hid hm
 have HWYm:=Lib.hid (show ac W.drew b3 (m.cells (.slice none 0 0) (.slice none 0 0)) 73 by rw[hm];exact HWY.out.drew)
 have HTm:=Lib.hid (show bc m by rw[hm];exact sg.of rfl rfl rfl)
 have HEm:=Lib.hid (show(n:Int)=m.epoch by rw[hm];exact HE.out)
 have HOm:=Lib.hid (show(al m.kind&&aM {m with tag:=m.nonce})=true by rw[hm];exact HOK.out)
 have HUm:=Lib.hid (show m.told=ar.zero by rw[hm];rfl)
 clear hm
 go_wp2_with (first
  |((with_reducible refine ag 73 (.tmp 4) b3 0 (m.cells (.slice none 0 0) (.slice none 0 0)) _ (some 34) (HWYm.out).range Tryz.underlying73 rfl ap ?hg ?ho ?hds ?hx ?_);(case ho|hg|hds|hx=>rfl))
  |fail)
 refine(qt vb d m _ _ n _ HVW.out.drew HR.out hn HEm.out HTm.out (by rw[HUm.out];exact aC.nil _ _) (by rw[HUm.out];exact aC.nil _ _) HOm.out).mono ?_
 rintro e w6 ⟨⟨t,rfl,ht⟩,hb6⟩
 have HT:=Lib.hid (show ak t (jj (iV d.root.data.toList 0 n) ({aa.zero with kind:=3,epoch:=d.epoch,nonce:=d.nonce}:aa)) by rw[←HM.out];exact ht)
 have HY6:=Lib.hid (HWY.out.drew.below hb6 HWY.out.drew.lt)
 have HX6:=Lib.hid (HWX.out.drew.below hb6 HWX.out.drew.lt)
 have HB6:=Lib.hid (HBW.out.drew.trans (hb6.mono HBW.out.drew.size))
 clear hb6 ht
 go_wp2_with (first
  |((with_reducible refine aj 9 (.tmp 36) (.tmp 35) b3 4 (.string t) _ _ HY6.out (Nat.le_of_ble_eq_true rfl) (by kernel_rfl) rfl ?hgd ?ho ?hx ?hy ?_);(case hgd|ho|hx|hy=>rfl);(intro w7 B7 o7);have HX7:=o7.blk HX6.out h13;replace B7:ac w7 b3 (({aa.zero with kind:=3,epoch:=d.epoch,nonce:=d.nonce,tag:=t}:aa).cells (.slice none 0 0) (.slice none 0 0)) 73:=B7)
  |((with_reducible refine ag 73 (.tmp 4) b3 0 (({aa.zero with kind:=3,epoch:=d.epoch,nonce:=d.nonce,tag:=t}:aa).cells (.slice none 0 0) (.slice none 0 0)) _ (some 64) (B7).range Tryz.underlying73 rfl ap ?hg ?ho ?hds ?hx ?_);(case ho|hg|hds|hx=>rfl))
  |((with_reducible refine ae 73 (.tmp 2) (.tmp 64) b1 bJ (({aa.zero with kind:=3,epoch:=d.epoch,nonce:=d.nonce,tag:=t}:aa).cells (.slice none 0 0) (.slice none 0 0)) 73 HX7 rfl ap (cr bR bR) ?hgd ?ho ?hx ?hy ?_);(case hgd|ho|hx|hy=>rfl);(intro w9 B9 o9))
  |fail)
 (try simp only[Exit.inBlock,Exit.then]);refine bodyPost_ret (jz rfl _ _ B9.range rfl Tryz.underlying73 rfl ap) rfl ⟨⟨t,rfl,HT.out⟩,o9.below (o7.below HB6.out f3) f1⟩
theorem yl (vb:Nat) (d:ay) (w:World) (h:bq w vb d) (hs:d.state=3) (hl:d.l.length≤4096):
  Calls Tryz.prog 24 #[.pointer (some ⟨vb,0,none⟩)] w fun e w'=>e= .returned (.tuple #[({aa.zero with kind:=5,nonce:=d.nonce,seq:=(d.l.length:Int)}:aa).v (.slice none 0 0) (.slice none 0 0), .bool true])∧Below w.heap.size w w':=by
 have HH:=Lib.hid h
 have HS:=Lib.hid hs
 clear h hs
 go_enter Tryz.func24,Tryz.ntmps24
 go_wp2_with (first
  |((with_reducible refine af 73 bJ ed (some 2) ?hgd ?ho ?hd ?_);(case hgd|ho|hd=>rfl);(intro b1 w1 l1 B1 e1 z1))
  |fail)
 have HB1:=Lib.hid (show Below w.heap.size w w1 from e1.mono l1)
 have f1:w.heap.size≤b1:=l1
 have HX1:=Lib.hid B1
 have HV1:=Lib.hid (HH.out.below HB1.out)
 clear B1 e1 l1 z1
 refine(dV vb _ _ HV1.out).mono ?_
 rintro e w2 ⟨rfl,hw2⟩
 subst hw2
 have v6:w1.cell? ⟨vb,6,none⟩=some (.int .i64 3):=by rw[←HS.out];exact HV1.out.blk.cell (i:=6) rfl
 have v8:w1.cell? ⟨vb,8,none⟩=some (.string d.nonce):=HV1.out.blk.cell (i:=8) rfl
 go_upto_region 4 with(first
  |((with_reducible refine ao 73 ?parts (({aa.zero with nonce:=d.nonce}:aa).cells (.slice none 0 0) (.slice none 0 0)) ?hg ?ho ?hf ?_);(case hg|ho=>rfl);(case hf=>exact lk _))
  |((with_reducible refine af 73 bJ ed (some 4) ?hgd ?ho ?hd ?_);(case hgd|ho|hd=>rfl);(intro b3 w3 l3 B3 e3 z3))
  |((with_reducible refine ae 73 (.tmp 4) (.tmp 14) b3 bJ (({aa.zero with nonce:=d.nonce}:aa).cells (.slice none 0 0) (.slice none 0 0)) 73 B3 rfl ap (cr bR bR) ?hgd ?ho ?hx ?hy ?_);(case hgd|ho|hx|hy=>rfl);(intro w4 B4 o4))
  |fail)
 have hb4:Below w1.heap.size w1 w4:=o4.below (e3.mono l3) l3
 have HV4:=Lib.hid (HV1.out.below hb4)
 have HX4:=Lib.hid (HX1.out.below hb4 HX1.out.lt)
 have HY4:=Lib.hid B4
 have H14:=Lib.hid hb4
 have f13:w1.heap.size≤b3:=l3
 have h13:b1≠b3:=by have:=HX1.out.lt;omega
 have f3:w.heap.size≤b3:=by have:=HB1.out.size;omega
 have HB4:=Lib.hid (HB1.out.trans (hb4.mono HB1.out.size))
 clear B3 B4 o4 e3 l3 z3 hb4 v6 v8
 have v6:w4.cell? ⟨vb,6,none⟩=some (.int .i64 3):=by rw[←HS.out];exact HV4.out.blk.cell (i:=6) rfl
 obtain⟨pl,cl,hpl⟩:=aQ HV4.out.rows
 have v52:w4.cell? ⟨vb,52,none⟩=some (.slice pl d.l.length cl):=by rw[←hpl];exact HV4.out.blk.cell (i:=52) rfl
 clear hpl
 have y0:=HY4.out.cell (i:=0) rfl
 have z0:=HY4.out.free 0
 have y2:=HY4.out.cell (i:=2) rfl
 have z2:=HY4.out.free 2
 obtain⟨W,hW⟩:∃W,W=((w4.setCell ⟨b3,0,none⟩ (.int .i64 5)).setCell ⟨b3,2,none⟩ (.int .i64 (d.l.length:Int))):=⟨_,rfl⟩
 have HWY:Hid (ac W b3 (({aa.zero with kind:=5,nonce:=d.nonce,seq:=(d.l.length:Int)}:aa).cells (.slice none 0 0) (.slice none 0 0)) 73):=Lib.hid (by rw[hW];exact((HY4.out.set 0 (.int .i64 5)).set 2 (.int .i64 (d.l.length:Int))))
 have oW:bH b3 w4 W:=by rw[hW];exact((bH.refl b3 w4).setCell 0 _).setCell 2 _
 have HWX:=Lib.hid (oW.blk HX4.out h13)
 have HVW:=Lib.hid (HV1.out.below (oW.below H14.out f13))
 have HBW:=Lib.hid (oW.below HB4.out f3)
 have HWE:=Lib.hid hW
 clear oW hW
 go_upto_region 12 with fail
 go_region_with (fail)
 all_goals
  rw[←HWE.out]
  clear v6 v52 y0 y2 z0 z2
  go_wp2_with (first
   |((with_reducible refine ag 73 (.tmp 4) b3 0 (({aa.zero with kind:=5,nonce:=d.nonce,seq:=(d.l.length:Int)}:aa).cells (.slice none 0 0) (.slice none 0 0)) _ (some 64) (HWY.out.drew).range Tryz.underlying73 rfl ap ?hg ?ho ?hds ?hx ?_);(case ho|hg|hds|hx=>rfl))
   |((with_reducible refine ae 73 (.tmp 2) (.tmp 64) b1 bJ (({aa.zero with kind:=5,nonce:=d.nonce,seq:=(d.l.length:Int)}:aa).cells (.slice none 0 0) (.slice none 0 0)) 73 HWX.out.drew rfl ap (cr bR bR) ?hgd ?ho ?hx ?hy ?_);(case hgd|ho|hx|hy=>rfl);(intro w9 B9 o9))
   |fail)
  (try simp only[Exit.inBlock,Exit.then]);refine bodyPost_ret (jz rfl _ _ B9.range rfl Tryz.underlying73 rfl ap) rfl ⟨rfl,o9.below HBW.out.drew f1⟩
theorem ym (vb:Nat) (d:ay) (p:Option Addr) (c:Nat) (w:World) (h:bq w vb d) (hs:d.state=4) (hna:d.na=1) (hv:d.verd= .slice p 0 c):
  Calls Tryz.prog 24 #[.pointer (some ⟨vb,0,none⟩)] w fun e w'=>e= .returned (.tuple #[({aa.zero with kind:=7,nonce:=d.nonce}:aa).v (.slice none 0 0) (.slice none 0 0), .bool true])∧Below w.heap.size w w':=by
 have HVD:=Lib.hid hv
 have HNA:=Lib.hid hna
 clear hv hna
 have HH:=Lib.hid h
 have HS:=Lib.hid hs
 clear h hs
 go_enter Tryz.func24,Tryz.ntmps24
 go_wp2_with (first
  |((with_reducible refine af 73 bJ ed (some 2) ?hgd ?ho ?hd ?_);(case hgd|ho|hd=>rfl);(intro b1 w1 l1 B1 e1 z1))
  |fail)
 have HB1:=Lib.hid (show Below w.heap.size w w1 from e1.mono l1)
 have f1:w.heap.size≤b1:=l1
 have HX1:=Lib.hid B1
 have HV1:=Lib.hid (HH.out.below HB1.out)
 clear B1 e1 l1 z1
 refine(dV vb _ _ HV1.out).mono ?_
 rintro e w2 ⟨rfl,hw2⟩
 subst hw2
 have v6:w1.cell? ⟨vb,6,none⟩=some (.int .i64 4):=by rw[←HS.out];exact HV1.out.blk.cell (i:=6) rfl
 have v8:w1.cell? ⟨vb,8,none⟩=some (.string d.nonce):=HV1.out.blk.cell (i:=8) rfl
 go_upto_region 4 with(first
  |((with_reducible refine ao 73 ?parts (({aa.zero with nonce:=d.nonce}:aa).cells (.slice none 0 0) (.slice none 0 0)) ?hg ?ho ?hf ?_);(case hg|ho=>rfl);(case hf=>exact lk _))
  |((with_reducible refine af 73 bJ ed (some 4) ?hgd ?ho ?hd ?_);(case hgd|ho|hd=>rfl);(intro b3 w3 l3 B3 e3 z3))
  |((with_reducible refine ae 73 (.tmp 4) (.tmp 14) b3 bJ (({aa.zero with nonce:=d.nonce}:aa).cells (.slice none 0 0) (.slice none 0 0)) 73 B3 rfl ap (cr bR bR) ?hgd ?ho ?hx ?hy ?_);(case hgd|ho|hx|hy=>rfl);(intro w4 B4 o4))
  |fail)
 have hb4:Below w1.heap.size w1 w4:=o4.below (e3.mono l3) l3
 have HV4:=Lib.hid (HV1.out.below hb4)
 have HX4:=Lib.hid (HX1.out.below hb4 HX1.out.lt)
 have HY4:=Lib.hid B4
 have H14:=Lib.hid hb4
 have f13:w1.heap.size≤b3:=l3
 have h13:b1≠b3:=by have:=HX1.out.lt;omega
 have f3:w.heap.size≤b3:=by have:=HB1.out.size;omega
 have HB4:=Lib.hid (HB1.out.trans (hb4.mono HB1.out.size))
 clear B3 B4 o4 e3 l3 z3 hb4 v6 v8
 have v6:w4.cell? ⟨vb,6,none⟩=some (.int .i64 4):=by rw[←HS.out];exact HV4.out.blk.cell (i:=6) rfl
 have hask:=HV4.out.asks
 rw[HNA.out]at hask
 obtain⟨ga,ca,hga⟩:∃g c,d.asks= .slice (some ⟨g,0,none⟩) 1 c:=by
  rcases hask.2 with⟨_,h0⟩|⟨g,cap,cur,hh,_⟩
  ·cases h0
  ·exact⟨g,cap,hh⟩
 have hq:=hask
 rw[hga]at hq
 have q0:w4.cell? ⟨ga,0,none⟩=some (.int .i64 0):=World.ownsRow.cellAt hq 0 (by decide)
 have q1:w4.cell? ⟨ga,1,none⟩=some (.int .i64 0):=World.ownsRow.cellAt hq 1 (by decide)
 have v9:w4.cell? ⟨vb,9,none⟩=some (.slice (some ⟨ga,0,none⟩) 1 ca):=by rw[←hga];exact HV4.out.blk.cell (i:=9) rfl
 have v54:w4.cell? ⟨vb,54,none⟩=some (.slice p 0 c):=by rw[←HVD.out];exact HV4.out.blk.cell (i:=54) rfl
 have n1:ga≠b3:=by
  have hl:=HV1.out.asks
  rw[hga]at hl
  have:=(hl.lt ga rfl).2
  omega
 have n2:b3≠ga:=fun e=>n1 e.symm
 clear hq hask hga
 have y0:=HY4.out.cell (i:=0) rfl
 have z0:=HY4.out.free 0
 have y6:=HY4.out.cell (i:=6) rfl
 have z6:=HY4.out.free 6
 have y7:=HY4.out.cell (i:=7) rfl
 have z7:=HY4.out.free 7
 obtain⟨W,hW⟩:∃W,W=(((w4.setCell ⟨b3,0,none⟩ (.int .i64 7)).setCell ⟨b3,6,none⟩ (.int .i64 0)).setCell ⟨b3,7,none⟩ (.int .i64 0)):=⟨_,rfl⟩
 have HWY:Hid (ac W b3 (({aa.zero with kind:=7,nonce:=d.nonce}:aa).cells (.slice none 0 0) (.slice none 0 0)) 73):=Lib.hid (by rw[hW];exact(((HY4.out.set 0 (.int .i64 7)).set 6 (.int .i64 0)).set 7 (.int .i64 0)))
 have oW:bH b3 w4 W:=by rw[hW];exact(((bH.refl b3 w4).setCell 0 _).setCell 6 _).setCell 7 _
 have HWX:=Lib.hid (oW.blk HX4.out h13)
 have HVW:=Lib.hid (HV1.out.below (oW.below H14.out f13))
 have HBW:=Lib.hid (oW.below HB4.out f3)
 have HWE:=Lib.hid hW
 clear oW hW
 go_upto_region 14 with fail
 go_region_with (fail)
 all_goals
  rw[←HWE.out]
  clear v6 n1 n2 v9 v54 q0 q1 y0 y6 y7 z0 z6 z7
  go_wp2_with (first
   |((with_reducible refine ag 73 (.tmp 4) b3 0 (({aa.zero with kind:=7,nonce:=d.nonce}:aa).cells (.slice none 0 0) (.slice none 0 0)) _ (some 64) (HWY.out.drew).range Tryz.underlying73 rfl ap ?hg ?ho ?hds ?hx ?_);(case ho|hg|hds|hx=>rfl))
   |((with_reducible refine ae 73 (.tmp 2) (.tmp 64) b1 bJ (({aa.zero with kind:=7,nonce:=d.nonce}:aa).cells (.slice none 0 0) (.slice none 0 0)) 73 HWX.out.drew rfl ap (cr bR bR) ?hgd ?ho ?hx ?hy ?_);(case hgd|ho|hx|hy=>rfl);(intro w9 B9 o9))
   |fail)
  (try simp only[Exit.inBlock,Exit.then]);refine bodyPost_ret (jz rfl _ _ B9.range rfl Tryz.underlying73 rfl ap) rfl ⟨rfl,o9.below HBW.out.drew f1⟩
end Go.Proofs.YtngiibgdgenidaaGreat
