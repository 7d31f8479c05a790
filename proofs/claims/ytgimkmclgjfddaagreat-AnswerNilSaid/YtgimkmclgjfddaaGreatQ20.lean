/- An epoch is closed (chapter 26): where there is no ring. A block's cell that holds a row, behind an append to it. No program in sight. What sealing makes and checking tells, in plain words (chapter 20). -/
import Derived.Test.YtgimkmclgjfddaaGreatQ19
import Derived.Test.YtgimkmclgjfddaaGreatQ16
import Derived.Test.YtgimkmclgjfddaaGreatQ9
import Derived.Test.YtgimkmclgjfddaaGreatQ17
import Derived.Test.YtgimkmclgjfddaaGreatQ8
import Derived.Test.YtgimkmclgjfddaaGreatQ3
import Derived.Test.YtgimkmclgjfddaaGreatQ15
import Derived.Test.YtgimkmclgjfddaaGreatQ2
import Derived.Deep.QuietTactic
import Derived.BigQuiet
import Derived.Deep.RegionWith
import Derived.Deep.DeepAppendWide
import Derived.Deep.DeepCutAuto
import Derived.OneCell
set_option linter.unusedSimpArgs false
set_option linter.unusedVariables false
set_option maxRecDepth 100000
set_option maxHeartbeats 4000000
namespace Go.Proofs.YtgimkmclgjfddaaGreat
open Go Go.RowKit
structure gz (v:bk):Prop where
 ok:iC v
 key:v.key.size=32
 e0:0≤v.epoch
 e1:v.epoch<4294967295
 room:v.used<v.last.geo.blocks-4
 sealed:v.sealed.length≤1048575
 tame:gx v.sealed
 last:(cE v.sealed).size=32
 c0:v.last.clock≤v.clock
 gen:v.last.gen≠1152921504606846976
 ep:v.last.epoch=v.epoch
 now:v.now≤v.clock
 t0:0≤v.clock
 t1:v.clock≤1099511627776
structure Ed (i:aV) (v:bk) (cnt:Int) (l:List UInt8):Prop where
 n0:0≤cnt
 n1:cnt≤4096
 len:l.length=32
 ex:∃T:World→Nat→Prop,
  (∀wx,bA wx i v→Calls Tryz.prog 92 #[.pointer (some ⟨i.vb,0,none⟩), .int .i64 v.epoch] wx fun e w'=>(∃ps,e= .returned (.tuple #[.pointer (some ⟨ps,0,none⟩), .int .i64 0])∧T w' ps)∧Below wx.heap.size wx w')∧
  (∀wx ps,T wx ps→Calls Tryz.prog 144 #[.pointer (some ⟨ps,0,none⟩)] wx fun e w'=>e= .returned (.int .i64 cnt)∧wx=w')∧
  (∀wx ps,T wx ps→Calls Tryz.prog 145 #[.pointer (some ⟨ps,0,none⟩)] wx fun e w'=>(∃s,e= .returned (.string s)∧aj s l)∧Below wx.heap.size wx w')
def aW (v:bk) (cnt:Int) (s:ByteArray):Rec:=⟨1,v.epoch,v.clock,cnt,0,0,s,⟨#[]⟩⟩
theorem xl (e t n:Int) (s:ByteArray):Tryz.prog.built 25 [(0, .int .i64 1),(1, .int .i64 e),(2, .int .i64 t),(3, .int .i64 n),(6, .string s)]=some (Rec.cells ⟨1,e,t,n,0,0,s,⟨#[]⟩⟩).toArray:=by kernel_rfl
theorem kQ {v:bk} (h:gz v) {cnt:Int} (n0:0≤cnt) (n1:cnt≤4096) {s:ByteArray} (hs:s.size=32):am (aW v cnt s)=true:=by
 have h1:=h.e0;have h2:=h.e1;have h3:=h.t0;have h4:=h.t1
 have h5:v.epoch≤4294967295:=by omega
 have h6:ByteArray.size (⟨#[]⟩:ByteArray)=0:=rfl
 simp[am,au,aW,hs,h1,h3,h4,h5,h6,n0,n1]
theorem np {l:List aH} {x:aH} (h:gx l) (hx:x.r.name.size≤1048576∧x.r.root.size≤1048576∧x.tag.size≤1048576∧Fits x.r.epoch):gx (l++[x]):=by
 intro j y hy
 by_cases hj:j<l.length
 ·rw[List.getElem?_append_left hj]at hy;exact h j y hy
 ·rw[List.getElem?_append_right (by omega)]at hy
  have hxy:y=x:=by
   cases hk:j-l.length with
   |zero=>rw[hk]at hy;simpa using hy.symm
   |succ n=>rw[hk]at hy;simp at hy
  subst hxy
  exact hx
theorem Ty.lt {w:World} {b:Nat} {t:TypeId} (h:Ty w b t):b<w.heap.size:=by
 obtain⟨_,_,h⟩:=h
 exact(Array.getElem?_eq_some_iff.1 h).1
theorem bA.foot_lt {w:World} {i:aV} {v:bk} (h:bA w i v):∀x,x∈i.foot v.d→x<w.heap.size:=by
 intro x hx
 simp only[aV.foot,List.mem_append,List.mem_cons,List.not_mem_nil,or_false,Option.mem_toList,Option.mem_def]at hx
 rcases hx with(rfl|rfl|rfl|rfl|rfl|rfl|rfl|rfl|rfl|rfl)|hx|hx|hx
 ·exact h.vol.lt
 ·exact h.jour.lt
 ·exact h.space.lt
 ·exact h.index.lt
 ·exact h.book.lt
 ·exact h.bclock.lt
 ·exact h.clock.lt
 ·exact h.maps.u.lt
 ·exact h.maps.l.lt
 ·exact h.maps.g.lt
 ·obtain⟨t,_,ht⟩:=h.disk.tyIn x hx
  exact ht.lt
 ·exact(ap h.vers hx).lt
 ·exact(ap h.sealed hx).lt
theorem bA.fresh {w0:World} {i:aV} {v:bk} {b:Nat} (h:bA w0 i v) (hb:w0.heap.size≤b):b∉i.foot v.d:=fun hm=>by
 have:=h.foot_lt b hm
 omega
section
variable {P:Program} {o:Oper} {a:Act} {w:World} {K:Act→World→Prop} {Q:Exit→Act→World→Prop}
theorem dC (t e:TypeId) (len:Nat) (parts:Array (Nat×Operand)) (cells:List Value) (z:Value) (sz byt:Nat)
  (hu:P.underlying t=some (.slice e)) (hi:(P.info? e).map (fun i=>(i.zero,i.size,i.bytes))=some (some z,sz,byt)) (hsm:len*sz≤16777216) (hpos:0<len*sz)
  (ho:o.op= .buildSlice t len parts)
  (hf:Instr.fill (fun i=>some (i*sz,sz)) ((Array.range (len*sz)).map (z.cells[· % z.cells.size]!)) (parts.map fun(i,x)=>(i,a.eval x)).toList=some cells.toArray)
  (h:∀g w',w.heap.size≤g→ab w' g cells e→Below g w w'→g<w'.heap.size→K (a.put o.dst (.slice (some ⟨g,0,none⟩) len len)) w'):o.wp P a w K Q:=by
 cases hie:P.info? e with
 |none=>simp[hie]at hi
 |some ie=>
  simp only[hie,Option.map_some,Option.some.injEq,Prod.mk.injEq]at hi
  obtain⟨h1,h2,_⟩:=hi
  subst h2
  exact wp_buildSlice t e len parts ho cells.toArray ie z hu hie h1 (by omega) (by omega) hf (h _ _ (Nat.le_refl _) (ab.new w cells e) ((Below.refl _ _).alloc (Nat.le_refl _) _) (by simp))
end
theorem qg {w:World} {b:Nat} {r:Rec} {t:ByteArray} (h:w.rangeAt b 0 (aH.cells ⟨r,t⟩)):w.rangeAt b 0 r.cells:=fun j u hu=>h j u (by
 show(r.cells++[.string t])[j]?=some u
 rw[List.getElem?_append_left (List.getElem?_eq_some_iff.1 hu).1]
 exact hu)
theorem FN {w:World} {i:aV} {v:bk} (h:bA w i v):i.bb≠i.c2:=fun e=>absurd (show 167=302 from(e ▸ h.book.ty).eq h.bclock.ty) (by decide)
theorem zr {w:World} {i:aV} {v:bk} (h:bA w i v) (k:Nat) (x:Value):(w.setCell ⟨i.vb,k,none⟩ x).ownsRow 0 27 9 i.sv v.sealed.length (gV v.sealed):=
 ak h.sealed ((aa.refl [i.vb] w).setCell (.inl (by simp)) k x) (fun k hk=>(ap h.sealed hk).notin (bC.one h.vol.ty) (by decide))
theorem qh (i:aV) (v:bk) (cnt:Int) (l:List UInt8) (w:World) (h:bA w i v) (hrv:i.rv= .pointer none) (hc:gz v) (hsc:Ed i v cnt l):
  Calls Tryz.prog 64 #[.pointer (some ⟨i.vb,0,none⟩)] w fun e w'=>∃(s t bl nk kb q nb:ByteArray) (sv:Value),aj s l∧aj t (pi v.key.data.toList (cE v.sealed).data.toList (v.sealed.length:Int) (aW v cnt s))∧aj bl (holdL (dR (aW v cnt s)++t.data.toList))∧aj nk (eJ v.key.data.toList [110,101,120,116] [])∧aj kb (eX (v.last.epoch+1) nk.data.toList)∧aj q (eb (fx v v.clock))∧nb=(⟨(List.replicate 4096 0).toArray⟩:ByteArray)∧
   e= .returned (.tuple #[(gw (v.sealed++[⟨aW v cnt s,t⟩]) (v.sealed.length:Int)).1.v, .int .i64 (gw (v.sealed++[⟨aW v cnt s,t⟩]) (v.sealed.length:Int)).2])∧
   cC w w' i v {i with sv:=sv} {v with used:=v.used+1,last:=fx v v.clock,d:=im v bl kb q nb,key:=nk,sealed:=v.sealed++[⟨aW v cnt s,t⟩],epoch:=v.epoch+1,now:=v.clock}:=by
 have H0:=Lib.hid h
 have HC:=Lib.hid hc
 have HRV:=Lib.hid hrv
 have HE1:=Lib.hid (show v.epoch<4294967295 from hc.e1)
 have HNN:=Lib.hid (show 0≤cnt∧cnt≤4096 from⟨hsc.n0,hsc.n1⟩)
 have HLL:=Lib.hid hsc.len
 obtain⟨T,t1,t2,t3⟩:=hsc.ex
 have HT1:=Lib.hid t1
 have HT2:=Lib.hid t2
 have HT3:=Lib.hid t3
 clear t1 t2 t3 hsc
 have hge:¬(4294967295:Int)≤v.epoch:=by have:=hc.e1;omega
 clear h hc hrv
 go_enter Tryz.func64,Tryz.ntmps64
 go_wp2_with (first
  |((with_reducible refine ai 37 _ il (some 2) ?hgd ?ho ?hd ?_);(case hgd|ho|hd=>rfl);(intro b2 w1 l1 B1 e1 z1))
  |fail)
 have HB1:=Lib.hid B1
 have HL1:=Lib.hid l1
 have HBE1:=Lib.hid (e1.mono l1)
 have H1:=Lib.hid (H0.out.below HBE1.out)
 clear B1 e1 z1 l1
 refine(oG i v _ H1.out).mono ?_
 rintro e w' ⟨rfl,rfl⟩
 have c5:w1.cell? ⟨i.vb,5,none⟩=some (.pointer (some ⟨i.bb,0,none⟩)):=H1.out.vol.cell (i:=5) rfl
 go_wp2_with fail
 refine(jd i.bb i.c2 v.first v.epoch i.m1 i.m2 i.m3 _ H1.out.book).mono ?_
 rintro e w' ⟨rfl,rfl⟩
 have c0:w1.cell? ⟨i.vb,0,none⟩=some (.pointer (some ⟨i.jb,0,none⟩)):=H1.out.vol.cell (i:=0) rfl
 have j0:w1.cell? ⟨i.jb,0,none⟩=some (.pointer (some ⟨i.sb,0,none⟩)):=H1.out.jour.cell (i:=0) rfl
 go_wp2_with fail
 refine(lJ i.sb v.last.geo v.used _ H1.out.space HC.out.ok.sup.geo).mono ?_
 rintro e w2 ⟨rfl,hb2⟩
 rw[decide_eq_true HC.out.room]
 have HB2:=Lib.hid (HB1.out.below hb2 HB1.out.lt)
 have HBE2:=Lib.hid (HBE1.out.trans (hb2.mono HBE1.out.size))
 have H2:=Lib.hid (H1.out.below hb2)
 clear hb2 c5 c0 j0
 go_wp2_with fail
 refine(HT1.out _ H2.out).mono ?_
 rintro e w3 ⟨⟨ps,rfl,hs3⟩,hb3⟩
 have HS3:=Lib.hid hs3
 have HB3:=Lib.hid (HB2.out.below hb3 HB2.out.lt)
 have HBE3:=Lib.hid (HBE2.out.trans (hb3.mono HBE2.out.size))
 have H3:=Lib.hid (H2.out.below hb3)
 clear hb3 hs3
 have c6:w3.cell? ⟨i.vb,6,none⟩=some (.pointer (some ⟨i.cb,0,none⟩)):=H3.out.vol.cell (i:=6) rfl
 go_wp2_with fail
 refine(gU i.cb v.clock _ H3.out.clock).mono ?_
 rintro e w' ⟨rfl,rfl⟩
 go_wp2_with fail
 refine(HT2.out _ ps HS3.out).mono ?_
 rintro e w' ⟨rfl,rfl⟩
 go_wp2_with fail
 refine(HT3.out _ ps HS3.out).mono ?_
 rintro e w4 ⟨⟨s,rfl,ts⟩,hb4⟩
 have HTS:=Lib.hid ts
 have HB4:=Lib.hid (HB3.out.below hb4 HB3.out.lt)
 have HBE4:=Lib.hid (HBE3.out.trans (hb4.mono HBE3.out.size))
 have H4:=Lib.hid (H3.out.below hb4)
 clear hb4 ts c6
 go_wp2_with (first
  |((with_reducible refine aw 25 ?parts57 (Rec.cells (aW v cnt s)) ?hg ?ho ?hf ?_);(case hg|ho=>rfl);(case hf=>exact xl _ _ _ _))
  |fail)
 refine(Bl i v (aW v cnt s) _ H4.out HRV.out HC.out.key ⟨HC.out.last,by omega,by have:=HC.out.sealed;omega,kQ HC.out HNN.out.1 HNN.out.2 (by rw[HTS.out.size,HLL.out])⟩ (by show s.size≤1048576;rw[HTS.out.size,HLL.out];omega) (by show(0:Nat)≤1048576;omega) (by have:=HC.out.e0;have:=HC.out.e1;show Fits v.epoch;unfold Fits;omega) (by have:=HC.out.sealed;omega)).mono ?_
 rintro e w5 ⟨⟨t,bl,rfl,tt,tb⟩,hb5⟩
 have HTT:=Lib.hid tt
 have HTB:=Lib.hid tb
 have HB5:=Lib.hid (HB4.out.below hb5 HB4.out.lt)
 have HBE5:=Lib.hid (HBE4.out.trans (hb5.mono HBE4.out.size))
 have H5:=Lib.hid (H4.out.below hb5)
 have HHL:=Lib.hid (show(dR (aW v cnt s)++t.data.toList).length≤4000 from by
  have h1:=ct (kQ HC.out HNN.out.1 HNN.out.2 (by rw[HTS.out.size,HLL.out]:s.size=32))
  have h2:t.data.toList.length=32:=by rw[show t.data.toList= _ from tt,fK]
  rw[List.length_append];omega)
 have HTAME:=Lib.hid (show gx (v.sealed++[⟨aW v cnt s,t⟩])from np HC.out.tame ⟨by show(0:Nat)≤1048576;omega,by show s.size≤1048576;rw[HTS.out.size,HLL.out];omega,by show t.size≤1048576;rw[HTT.out.size,fK];omega,by have:=HC.out.e0;have:=HC.out.e1;show Fits v.epoch;unfold Fits;omega⟩)
 clear hb5 tt tb
 have hxr:(⟨aW v cnt s,t⟩:aH)=⟨aW v cnt s,t⟩:=rfl
 clear hxr
 go_upto_region 10 with(first
  |((with_reducible refine ai 27 _ uU (some 7) ?hgd ?ho ?hd ?_);(case hgd|ho|hd=>rfl);(intro b7 w6 l6 B6 e6 z6))
  |((with_reducible refine af 27 (.tmp 7) (.tmp 59) b7 (aH.cells ⟨Rec.zero,⟨#[]⟩⟩) (aH.cells ⟨aW v cnt s,t⟩) 27 B6 rfl ml (j5 _) ?hgd ?ho ?hx ?hy ?_);(case hgd|ho|hx|hy=>rfl);(intro w7 B7 o7))
  |fail)
 have hb7:Below w5.heap.size w5 w7:=o7.below (e6.mono l6) l6
 have HL7:=Lib.hid (show w5.heap.size≤b7 from l6)
 have HX7:=Lib.hid B7
 have HB7:=Lib.hid (HB5.out.below hb7 HB5.out.lt)
 have HBE7:=Lib.hid (HBE5.out.trans (hb7.mono HBE5.out.size))
 have H7:=Lib.hid (H5.out.below hb7)
 clear B6 B7 e6 z6 o7 l6 hb7
 have hwe:IntKind.i64.wrap (v.epoch+1)=v.epoch+1:=IntWalk.i64_in _ (by have:=HC.out.e0;have:=HC.out.e1;omega)
 refine wp_region_held_drew (S:=fun wx=>wx.cell? ⟨i.vb,7,none⟩=some (.pointer none)∧wx.cell? ⟨i.vb,1,none⟩=some (.string v.key)) (by kernel_rfl) (⟨(by rw[←HRV.out];exact H7.out.vol.drew.cell (i:=7) rfl),H7.out.vol.drew.cell (i:=1) rfl⟩) (fun hHeld=> ?_)
 obtain⟨wd,hwd⟩:∃wd,wd=w7.drew:=⟨_,rfl⟩
 have hbd:Below w7.heap.size w7 wd:=by rw[hwd];exact(Below.refl _ _).drew
 have Hd:=Lib.hid (H7.out.below hbd)
 have HXd:=Lib.hid (HX7.out.below hbd HX7.out.lt)
 have HBd:=Lib.hid (HB7.out.below hbd HB7.out.lt)
 have HBEd:=Lib.hid (HBE7.out.trans (hbd.mono HBE7.out.size))
 rw[←hwd]
 rw[←hwd]at hHeld
 clear hwd hbd
 refine hp 0 ?_
 refine hp 1 ?_
 refine hp 2 ?_
 refine hp 3 ?_
 refine hp 4 ?_
 refine hp 5 ?_
 refine hp 6 ?_
 refine hp 7 ?_
 refine hp 8 ?_
 refine hp 9 ?_
 refine wpAnyH_ready (rs:=[10]) (by kernel_rfl) (by simp) ?_
 refine AllReadyH.cons rfl (fun K hK=> ?_) AllReadyH.nil
 go_simp
 refine(sF (v.epoch+1) v.key _ HC.out.key).mono ?_
 rintro e we ⟨⟨nk,rfl,tn⟩,hbe⟩
 have HTN:=Lib.hid tn
 have He:=Lib.hid (Hd.out.below hbe)
 have HXe:=Lib.hid (HXd.out.below hbe HXd.out.lt)
 have HBe:=Lib.hid (HBd.out.below hbe HBd.out.lt)
 have HBEe:=Lib.hid (HBEd.out.trans (hbe.mono HBEd.out.size))
 clear hbe tn
 (try go_wp2_with fail)
 refine hK.out _ _ (⟨(by rw[←HRV.out];exact He.out.vol.cell (i:=7) rfl),He.out.vol.cell (i:=1) rfl⟩) (fun hHeld2=> ?_)
 clear hK K hHeld
 have hHeld:=hHeld2
 clear hHeld2
 (try go_frame)
 refine hp 11 ?_
 refine wpAnyH_done (by kernel_rfl) ?_ _
 clear hHeld
 go_upto_region 11 with fail
 refine wp_region_held_drew (S:=fun wx=>wx.cell? ⟨i.vb,0,none⟩=some (.pointer (some ⟨i.jb,0,none⟩))∧wx.cell? ⟨i.vb,6,none⟩=some (.pointer (some ⟨i.cb,0,none⟩))) (by kernel_rfl) (⟨He.out.vol.drew.cell (i:=0) rfl,He.out.vol.drew.cell (i:=6) rfl⟩) (fun hHeld=> ?_)
 obtain⟨wg,hwg⟩:∃wg,wg=we.drew:=⟨_,rfl⟩
 have hbg:Below we.heap.size we wg:=by rw[hwg];exact(Below.refl _ _).drew
 have Hg:=Lib.hid (He.out.below hbg)
 have HXg:=Lib.hid (HXe.out.below hbg HXe.out.lt)
 have HBg:=Lib.hid (HBe.out.below hbg HBe.out.lt)
 have HBEg:=Lib.hid (HBEe.out.trans (hbg.mono HBEe.out.size))
 rw[←hwg]
 rw[←hwg]at hHeld
 clear hwg hbg
 refine hp 0 ?_
 refine hp 1 ?_
 refine hp 2 ?_
 refine hp 3 ?_
 refine hp 4 ?_
 refine hp 5 ?_
 refine hp 6 ?_
 refine hp 7 ?_
 refine hp 8 ?_
 refine hp 9 ?_
 refine wpAnyH_ready (rs:=[10]) (by kernel_rfl) (by simp) ?_
 refine AllReadyH.cons rfl (fun K hK=> ?_) AllReadyH.nil
 go_simp
 refine(gU i.cb v.clock _ Hg.out.clock).mono ?_
 rintro e w' ⟨rfl,rfl⟩
 (try go_wp2_with fail)
 refine hK.out _ _ (⟨Hg.out.vol.cell (i:=0) rfl,Hg.out.vol.cell (i:=6) rfl⟩) (fun hHeld2=> ?_)
 clear hK K hHeld
 have hHeld:=hHeld2
 clear hHeld2
 (try go_frame)
 refine wpAnyH_ready (rs:=[11]) (by kernel_rfl) (by simp) ?_
 refine AllReadyH.cons rfl (fun K hK=> ?_) AllReadyH.nil
 go_simp
 refine(xg i v bl nk v.clock _ Hg.out HC.out.ok (by rw[HTB.out.size];exact uC _ HHL.out) (by rw[HTN.out.size,dB]) HC.out.room HC.out.c0 HC.out.t1 HC.out.gen (by rw[HC.out.ep];exact HC.out.e1)).mono ?_
 rintro e wh ⟨rfl,kb,q,nb,tk,tq,hnb,ht⟩
 have HTK:=Lib.hid tk
 have HTQ:=Lib.hid tq
 have HNB:=Lib.hid hnb
 have HXh:=Lib.hid (ht.turned.blk HXg.out (H5.out.fresh HL7.out))
 have HBh:=Lib.hid (ht.turned.blk HBg.out (H0.out.fresh HL1.out))
 have HTO:=Lib.hid (cC.ahead HBEg.out ht)
 clear ht tk tq hnb
 (try go_wp2_with fail)
 refine hK.out _ _ (⟨HTO.out.at'.vol.cell (i:=0) rfl,HTO.out.at'.vol.cell (i:=6) rfl⟩) (fun hHeld2=> ?_)
 clear hK K hHeld
 have hHeld:=hHeld2
 clear hHeld2
 (try go_frame)
 refine hp 12 ?_
 refine hp 13 ?_
 refine hp 14 ?_
 refine hp 15 ?_
 refine hp 16 ?_
 refine wpAnyH_done (by kernel_rfl) ?_ _
 clear hHeld
 have f1:=HTO.out.at'.vol.free 1
 have x1:=HTO.out.at'.vol.cell (i:=1) rfl
 go_upto_region 15 with fail
 have ht2:aa [i.vb] wh (wh.setCell ⟨i.vb,1,none⟩ (.string nk)):=(aa.refl _ _).setCell (.inl (by simp)) 1 _
 have HN7:=Lib.hid (H5.out.fresh HL7.out)
 have HN2:=Lib.hid (H0.out.fresh HL1.out)
 have hn7:b7∉[i.vb]:=fun hm=>HN7.out (by simp at hm;rw[hm];simp[aV.foot])
 have hn2:b2∉[i.vb]:=fun hm=>HN2.out (by simp at hm;rw[hm];simp[aV.foot])
 have HXi:=Lib.hid (ht2.blk HXh.out hn7)
 have HBi:=Lib.hid (ht2.blk HBh.out hn2)
 have HTi:=Lib.hid (HTO.out.trans (HTO.out.at'.own (key:=nk) (sv:=i.sv) (l:=v.sealed) (ht2.mono (fun x hx=>by simp at hx;subst hx;simp)) (HTO.out.at'.vol.set 1 (.string nk)) (zr HTO.out.at' 1 (.string nk)) (fun k hk=> .inl hk)))
 obtain⟨wi,hwi⟩:∃wi,wi=wh.setCell ⟨i.vb,1,none⟩ (.string nk):=⟨_,rfl⟩
 rw[←hwi]at HXi HBi HTi
 rw[←hwi]
 clear hwi f1 x1 ht2 hn7 hn2 HTO HXh HBh
 refine wp_region_held_drew (S:=fun wx=>wx.rangeAt b7 0 (aW v cnt s).cells∧wx.cell? ⟨i.vb,5,none⟩=some (.pointer (some ⟨i.bb,0,none⟩))) (by kernel_rfl) (⟨qg HXi.out.drew.range,HTi.out.at'.vol.drew.cell (i:=5) rfl⟩) (fun hHeld=> ?_)
 obtain⟨wj,hwj⟩:∃wj,wj=wi.drew:=⟨_,rfl⟩
 have hbj:Below wi.heap.size wi wj:=by rw[hwj];exact(Below.refl _ _).drew
 have HXj:=Lib.hid (HXi.out.below hbj HXi.out.lt)
 have HBj:=Lib.hid (HBi.out.below hbj HBi.out.lt)
 have HTj:=Lib.hid (HTi.out.below hbj)
 rw[←hwj]
 rw[←hwj]at hHeld
 clear hwj hbj
 refine hp 0 ?_
 refine hp 1 ?_
 refine hp 2 ?_
 refine hp 3 ?_
 refine hp 4 ?_
 refine wpAnyH_take (i:=5) (v:= .agg ((aW v cnt s).cells).toArray) rfl (by kernel_rfl) (by kernel_rfl) (by kernel_rfl) (fun _ _ _ h=>h) (yieldsIf_load_mid (by rfl) 25 (.tmp 99) rfl b7 0 rfl ((aW v cnt s).cells) _ (fun w h=>h.1) Tryz.underlying25 rfl aI) (by assumption) ?_
 (try go_frame)
 refine wpAnyH_ready (rs:=[6]) (by kernel_rfl) (by simp) ?_
 refine AllReadyH.cons rfl (fun K hK=> ?_) AllReadyH.nil
 go_simp
 refine(wV i.bb i.c2 i.m1 i.m2 i.m3 v.n v.first v.epoch v.now v.U v.L v.G (aW v cnt s) _ HTj.out.at'.book HTj.out.at'.bclock HTj.out.at'.maps rfl (kQ HC.out HNN.out.1 HNN.out.2 (by rw[HTS.out.size,HLL.out])) rfl HC.out.now (FN HTj.out.at')).mono ?_
 rintro e wk ⟨⟨rfl,hbk,hck⟩,htk⟩
 have HXk:=Lib.hid (htk.blk HXj.out (fun hm=>HN7.out (by simp at hm;rcases hm with hm|hm<;>(rw[hm];simp[aV.foot]))))
 have HBk:=Lib.hid (htk.blk HBj.out (fun hm=>HN2.out (by simp at hm;rcases hm with hm|hm<;>(rw[hm];simp[aV.foot]))))
 have HTk:=Lib.hid (HTj.out.trans (HTj.out.at'.closed htk hbk hck))
 clear hbk hck htk
 (try go_wp2_with fail)
 refine hK.out _ _ (⟨qg HXk.out.range,HTk.out.at'.vol.cell (i:=5) rfl⟩) (fun hHeld2=> ?_)
 clear hK K hHeld
 have hHeld:=hHeld2
 clear hHeld2
 (try go_frame)
 refine wpAnyH_done (by kernel_rfl) ?_ _
 clear hHeld
 go_upto_region 16 with fail
 refine wp_region_held_drew (S:=fun wx=>wx.rangeAt b7 0 (aH.cells ⟨aW v cnt s,t⟩)) (by kernel_rfl) (HXk.out.drew.range) (fun hHeld=> ?_)
 obtain⟨wl,hwl⟩:∃wl,wl=wk.drew:=⟨_,rfl⟩
 have hbl:Below wk.heap.size wk wl:=by rw[hwl];exact(Below.refl _ _).drew
 have HXl:=Lib.hid (HXk.out.below hbl HXk.out.lt)
 have HBl:=Lib.hid (HBk.out.below hbl HBk.out.lt)
 have HTl:=Lib.hid (HTk.out.below hbl)
 rw[←hwl]
 rw[←hwl]at hHeld
 clear hwl hbl
 refine hp 0 ?_
 refine hp 1 ?_
 refine hp 2 ?_
 refine hp 3 ?_
 refine wpAnyH_take (i:=5) (v:= .agg ((aH.cells ⟨aW v cnt s,t⟩)).toArray) rfl (by kernel_rfl) (by kernel_rfl) (by kernel_rfl) (fun _ _ _ h=>h) (yieldsIf_load_mid (by rfl) 27 (.tmp 7) rfl b7 0 rfl ((aH.cells ⟨aW v cnt s,t⟩)) _ (fun w h=>h) Tryz.underlying27 rfl ml) (by assumption) ?_
 (try go_frame)
 obtain⟨i0,hi,hz0,hz1,hz2⟩:=info_parts jZ
 refine wpAnyH_ready (rs:=[4,6]) (by kernel_rfl) (by simp) ?_
 refine AllReadyH.cons rfl (fun K hK=> ?_) (AllReadyH.cons rfl (fun K hK=> ?_) AllReadyH.nil)
 ·have c4:wl.cell? ⟨i.vb,4,none⟩=some i.sv:=HTl.out.at'.vol.cell (i:=4) rfl
  go_simp
  clear c4
  refine hK.out _ _ (HXl.out.range) (fun hHeld2=> ?_)
  clear hK K hHeld
  have hHeld:=hHeld2
  clear hHeld2
  (try go_frame)
  refine wpAnyH_ready (rs:=[6]) (by kernel_rfl) (by simp) ?_
  refine AllReadyH.cons rfl (fun K hK=> ?_) AllReadyH.nil
  refine dC 45 27 1 _ (aH.cells ⟨aW v cnt s,t⟩) (.agg (aH.cells ⟨Rec.zero,⟨#[]⟩⟩).toArray) 9 96 Tryz.underlying45 jZ (by omega) (by omega) rfl (by kernel_rfl) ?_
  intro g8 w8 l8 B8 e8 z8
  have hb8:Below wl.heap.size wl w8:=e8.mono l8
  have HG8:=Lib.hid B8
  have HX8:=Lib.hid (HXl.out.below hb8 HXl.out.lt)
  have HB8:=Lib.hid (HBl.out.below hb8 HBl.out.lt)
  have HT8:=Lib.hid (HTl.out.below hb8)
  clear B8 e8 z8 hb8 l8
  refine hK.out _ _ (HX8.out.range) (fun hHeld2=> ?_)
  clear hK K hHeld
  have hHeld:=hHeld2
  clear hHeld2
  (try go_frame)
  refine wpAnyH_ready (rs:=[7]) (by kernel_rfl) (by simp) ?_
  refine AllReadyH.cons rfl (fun K hK=> ?_) AllReadyH.nil
  refine df _ _ 45 rfl i0 (.agg (aH.cells ⟨Rec.zero,⟨#[]⟩⟩).toArray) 96 Tryz.underlying45 hi hz0 hz1 hz2 rfl (by decide) rfl HT8.out.at'.sealed ⟨g8,0,none⟩ 1 1 (aH.cells ⟨aW v cnt s,t⟩) rfl rfl (cd HG8.out) (j5 _) (by have:=HC.out.sealed;show v.sealed.length+1≤maxLen;unfold maxLen;omega) (by have:=HC.out.sealed;show(v.sealed.length+1)*96≤140737488355328;omega) (Nat.zero_le _) ?_
  intro v' w9 own9 grow9' near9'
  have grow9:w8.grownBy w9 i.sv.ownBlock:=grow9'
  have near9:dY w8 i.sv.ownBlock v'.ownBlock:=near9'
  clear grow9' near9'
  have HX9:=Lib.hid (HX8.out.grown grow9 (fun e=>HN7.out (by simp only[aV.foot,List.mem_append,Option.mem_toList,Option.mem_def];exact .inr (.inr (.inr e.symm)))))
  have HB9:=Lib.hid (HB8.out.grown grow9 (fun e=>HN2.out (by simp only[aV.foot,List.mem_append,Option.mem_toList,Option.mem_def];exact .inr (.inr (.inr e.symm)))))
  have HV9:=Lib.hid (HT8.out.at'.vol.grown grow9 (fun e=>absurd (show 27=50 from(ap HT8.out.at'.sealed e.symm).eq HT8.out.at'.vol.ty) (by decide)))
  obtain⟨p9,q9,hsh⟩:=aT own9
  subst hsh
  have HO9:=Lib.hid own9
  have HGR:=Lib.hid grow9
  have HNE:=Lib.hid near9
  clear own9 grow9 near9
  refine hK.out _ _ (HX9.out.range) (fun hHeld2=> ?_)
  clear hK K hHeld
  have hHeld:=hHeld2
  clear hHeld2
  (try go_frame)
  refine hp 8 ?_
  refine hp 9 ?_
  have c4:=HV9.out.cell (i:=4) rfl
  have f4:=HV9.out.free 4
  refine wpAnyH_ready (rs:=[10]) (by kernel_rfl) (by simp) ?_
  refine AllReadyH.cons rfl (fun K hK=> ?_) AllReadyH.nil
  go_simp
  have HX10:=Lib.hid (HX9.out.set_other (a:=⟨i.vb,4,none⟩) (fun e=>HN7.out (by rw[e];simp[aV.foot])) (.slice p9 (v.sealed.length+1) q9))
  have HB10:=Lib.hid (HB9.out.set_other (a:=⟨i.vb,4,none⟩) (fun e=>HN2.out (by rw[e];simp[aV.foot])) (.slice p9 (v.sealed.length+1) q9))
  refine hK.out _ _ (HX10.out.range) (fun hHeld2=> ?_)
  clear hK K hHeld
  have hHeld:=hHeld2
  clear hHeld2
  (try go_frame)
  refine wpAnyH_done (by kernel_rfl) ?_ _
  clear hHeld c4 f4
  have HT10:=Lib.hid (HT8.out.trans (HT8.out.at'.own (key:=nk) (sv:=(.slice p9 (v.sealed.length+1) q9)) (l:=v.sealed++[⟨aW v cnt s,t⟩]) ((aa.of_grown HGR.out (fun k hk=>by simp[hk])).setCell (.inl (by simp)) 4 (.slice p9 (v.sealed.length+1) q9)) (HV9.out.set 4 (.slice p9 (v.sealed.length+1) q9)) (by rw[List.length_append,jL];exact ak HO9.out ((aa.refl [i.vb] w9).setCell (.inl (by simp)) 4 (.slice p9 (v.sealed.length+1) q9)) (fun k hk=>(ap HO9.out hk).notin (bC.one HV9.out.ty) (by decide))) (fun k hk=>HNE.out.elim (fun e=> .inl (by rw[←e];exact hk)) (fun f=> .inr (f k hk)))))
  obtain⟨w10,hw10⟩:∃w10,w10=w9.setCell ⟨i.vb,4,none⟩ (.slice p9 (v.sealed.length+1) q9):=⟨_,rfl⟩
  rw[←hw10]at HT10 HB10
  rw[←hw10]
  clear hw10 HV9 HO9 HGR HNE HX9 HB9 HX10
  go_upto_region 17 with fail
  have hw17:IntKind.i64.wrap (v.sealed.length:Int)=(v.sealed.length:Int):=IntWalk.i64_in _ (by have:=HC.out.sealed;omega)
  have hw18:IntKind.i64.wrap ((v.sealed.length:Int)+1-1)=(v.sealed.length:Int):=by rw[IntWalk.i64_in _ (by have:=HC.out.sealed;omega)];omega
  refine wp_region_held_drew (S:=fun wx=>wx.cell? ⟨i.vb,4,none⟩=some (.slice p9 (v.sealed.length+1) q9)) (by kernel_rfl) (HT10.out.at'.vol.drew.cell (i:=4) rfl) (fun hHeld=> ?_)
  obtain⟨wm,hwm⟩:∃wm,wm=w10.drew:=⟨_,rfl⟩
  have hbm:Below w10.heap.size w10 wm:=by rw[hwm];exact(Below.refl _ _).drew
  have HTm:=Lib.hid (HT10.out.below hbm)
  have HBm:=Lib.hid (HB10.out.below hbm HB10.out.lt)
  rw[←hwm]
  rw[←hwm]at hHeld
  clear hwm hbm
  refine hp 0 ?_
  refine hp 1 ?_
  refine hp 2 ?_
  refine hp 3 ?_
  refine hp 4 ?_
  refine hp 5 ?_
  refine hp 6 ?_
  refine hp 7 ?_
  refine hp 8 ?_
  refine hp 9 ?_
  refine wpAnyH_ready (rs:=[10]) (by kernel_rfl) (by simp) ?_
  refine AllReadyH.cons rfl (fun K hK=> ?_) AllReadyH.nil
  go_simp
  refine(rG (.slice p9 (v.sealed.length+1) q9) (v.sealed++[⟨aW v cnt s,t⟩]) (v.sealed.length:Int) _ (de.own (n:=v.sealed.length+1) (by have h9:=HTm.out.at'.sealed;simp only[List.length_append,List.length_cons,List.length_nil,Nat.zero_add]at h9;exact h9) (by simp)) (by rw[List.length_append];have:=HC.out.sealed;show v.sealed.length+1≤1048576;omega) HTAME.out).mono ?_
  rintro e wn ⟨he,hbn⟩
  unfold nW at he
  obtain⟨R,hR⟩:∃R,gw (v.sealed++[⟨aW v cnt s,t⟩]) (v.sealed.length:Int)=R:=⟨_,rfl⟩
  rw[hR]at he
  subst he
  have HR:=Lib.hid hR
  have HTn:=Lib.hid (HTm.out.below hbn)
  have HBn:=Lib.hid (HBm.out.below hbn HBm.out.lt)
  clear hbn hR
  (try go_wp2_with fail)
  refine hK.out _ _ (HTn.out.at'.vol.cell (i:=4) rfl) (fun hHeld2=> ?_)
  clear hK K hHeld
  have hHeld:=hHeld2
  clear hHeld2
  (try go_frame)
  refine hp 11 ?_
  refine hp 12 ?_
  refine wpAnyH_ready (rs:=[13]) (by kernel_rfl) (by simp) ?_
  refine AllReadyH.cons rfl (fun K hK=> ?_) AllReadyH.nil
  refine gi 37 (.tmp 2) (.tmp 123) b2 aK.zero.cells R.1.cells 37 HBn.out rfl bf (aK.cells_one _) rfl rfl rfl ?_
  intro wo Bo oo
  have HTo:=Lib.hid (HTn.out.away (oo.turned (by simp)) (HTn.out.at'.notype HBn.out.ty (by decide)) HL1.out)
  refine hK.out _ _ (HTo.out.at'.vol.cell (i:=4) rfl) (fun hHeld2=> ?_)
  clear hK K hHeld
  have hHeld:=hHeld2
  clear hHeld2
  (try go_frame)
  refine hp 14 ?_
  refine wpAnyH_done (by kernel_rfl) ?_ _
  clear hHeld
  (try go_wp2_with fail)
  (try simp only[Exit.inBlock,Exit.then]);refine bodyPost_ret (bQ rfl _ _ Bo.range rfl Tryz.underlying37 rfl bf) rfl ⟨s,t,bl,nk,kb,q,nb,(.slice p9 (v.sealed.length+1) q9),HTS.out,HTT.out,HTB.out,HTN.out,HTK.out,HTQ.out,HNB.out,by rw[HR.out];rfl,HTo.out⟩
 ·refine dC 45 27 1 _ (aH.cells ⟨aW v cnt s,t⟩) (.agg (aH.cells ⟨Rec.zero,⟨#[]⟩⟩).toArray) 9 96 Tryz.underlying45 jZ (by omega) (by omega) rfl (by kernel_rfl) ?_
  intro g8 w8 l8 B8 e8 z8
  have hb8:Below wl.heap.size wl w8:=e8.mono l8
  have HG8:=Lib.hid B8
  have HX8:=Lib.hid (HXl.out.below hb8 HXl.out.lt)
  have HB8:=Lib.hid (HBl.out.below hb8 HBl.out.lt)
  have HT8:=Lib.hid (HTl.out.below hb8)
  clear B8 e8 z8 hb8 l8
  refine hK.out _ _ (HX8.out.range) (fun hHeld2=> ?_)
  clear hK K hHeld
  have hHeld:=hHeld2
  clear hHeld2
  (try go_frame)
  refine wpAnyH_ready (rs:=[4]) (by kernel_rfl) (by simp) ?_
  refine AllReadyH.cons rfl (fun K hK=> ?_) AllReadyH.nil
  have c4:w8.cell? ⟨i.vb,4,none⟩=some i.sv:=HT8.out.at'.vol.cell (i:=4) rfl
  go_simp
  clear c4
  refine hK.out _ _ (HX8.out.range) (fun hHeld2=> ?_)
  clear hK K hHeld
  have hHeld:=hHeld2
  clear hHeld2
  (try go_frame)
  refine wpAnyH_ready (rs:=[7]) (by kernel_rfl) (by simp) ?_
  refine AllReadyH.cons rfl (fun K hK=> ?_) AllReadyH.nil
  refine df _ _ 45 rfl i0 (.agg (aH.cells ⟨Rec.zero,⟨#[]⟩⟩).toArray) 96 Tryz.underlying45 hi hz0 hz1 hz2 rfl (by decide) rfl HT8.out.at'.sealed ⟨g8,0,none⟩ 1 1 (aH.cells ⟨aW v cnt s,t⟩) rfl rfl (cd HG8.out) (j5 _) (by have:=HC.out.sealed;show v.sealed.length+1≤maxLen;unfold maxLen;omega) (by have:=HC.out.sealed;show(v.sealed.length+1)*96≤140737488355328;omega) (Nat.zero_le _) ?_
  intro v' w9 own9 grow9' near9'
  have grow9:w8.grownBy w9 i.sv.ownBlock:=grow9'
  have near9:dY w8 i.sv.ownBlock v'.ownBlock:=near9'
  clear grow9' near9'
  have HX9:=Lib.hid (HX8.out.grown grow9 (fun e=>HN7.out (by simp only[aV.foot,List.mem_append,Option.mem_toList,Option.mem_def];exact .inr (.inr (.inr e.symm)))))
  have HB9:=Lib.hid (HB8.out.grown grow9 (fun e=>HN2.out (by simp only[aV.foot,List.mem_append,Option.mem_toList,Option.mem_def];exact .inr (.inr (.inr e.symm)))))
  have HV9:=Lib.hid (HT8.out.at'.vol.grown grow9 (fun e=>absurd (show 27=50 from(ap HT8.out.at'.sealed e.symm).eq HT8.out.at'.vol.ty) (by decide)))
  obtain⟨p9,q9,hsh⟩:=aT own9
  subst hsh
  have HO9:=Lib.hid own9
  have HGR:=Lib.hid grow9
  have HNE:=Lib.hid near9
  clear own9 grow9 near9
  refine hK.out _ _ (HX9.out.range) (fun hHeld2=> ?_)
  clear hK K hHeld
  have hHeld:=hHeld2
  clear hHeld2
  (try go_frame)
  refine hp 8 ?_
  refine hp 9 ?_
  have c4:=HV9.out.cell (i:=4) rfl
  have f4:=HV9.out.free 4
  refine wpAnyH_ready (rs:=[10]) (by kernel_rfl) (by simp) ?_
  refine AllReadyH.cons rfl (fun K hK=> ?_) AllReadyH.nil
  go_simp
  have HX10:=Lib.hid (HX9.out.set_other (a:=⟨i.vb,4,none⟩) (fun e=>HN7.out (by rw[e];simp[aV.foot])) (.slice p9 (v.sealed.length+1) q9))
  have HB10:=Lib.hid (HB9.out.set_other (a:=⟨i.vb,4,none⟩) (fun e=>HN2.out (by rw[e];simp[aV.foot])) (.slice p9 (v.sealed.length+1) q9))
  refine hK.out _ _ (HX10.out.range) (fun hHeld2=> ?_)
  clear hK K hHeld
  have hHeld:=hHeld2
  clear hHeld2
  (try go_frame)
  refine wpAnyH_done (by kernel_rfl) ?_ _
  clear hHeld c4 f4
  have HT10:=Lib.hid (HT8.out.trans (HT8.out.at'.own (key:=nk) (sv:=(.slice p9 (v.sealed.length+1) q9)) (l:=v.sealed++[⟨aW v cnt s,t⟩]) ((aa.of_grown HGR.out (fun k hk=>by simp[hk])).setCell (.inl (by simp)) 4 (.slice p9 (v.sealed.length+1) q9)) (HV9.out.set 4 (.slice p9 (v.sealed.length+1) q9)) (by rw[List.length_append,jL];exact ak HO9.out ((aa.refl [i.vb] w9).setCell (.inl (by simp)) 4 (.slice p9 (v.sealed.length+1) q9)) (fun k hk=>(ap HO9.out hk).notin (bC.one HV9.out.ty) (by decide))) (fun k hk=>HNE.out.elim (fun e=> .inl (by rw[←e];exact hk)) (fun f=> .inr (f k hk)))))
  obtain⟨w10,hw10⟩:∃w10,w10=w9.setCell ⟨i.vb,4,none⟩ (.slice p9 (v.sealed.length+1) q9):=⟨_,rfl⟩
  rw[←hw10]at HT10 HB10
  rw[←hw10]
  clear hw10 HV9 HO9 HGR HNE HX9 HB9 HX10
  go_upto_region 17 with fail
  have hw17:IntKind.i64.wrap (v.sealed.length:Int)=(v.sealed.length:Int):=IntWalk.i64_in _ (by have:=HC.out.sealed;omega)
  have hw18:IntKind.i64.wrap ((v.sealed.length:Int)+1-1)=(v.sealed.length:Int):=by rw[IntWalk.i64_in _ (by have:=HC.out.sealed;omega)];omega
  refine wp_region_held_drew (S:=fun wx=>wx.cell? ⟨i.vb,4,none⟩=some (.slice p9 (v.sealed.length+1) q9)) (by kernel_rfl) (HT10.out.at'.vol.drew.cell (i:=4) rfl) (fun hHeld=> ?_)
  obtain⟨wm,hwm⟩:∃wm,wm=w10.drew:=⟨_,rfl⟩
  have hbm:Below w10.heap.size w10 wm:=by rw[hwm];exact(Below.refl _ _).drew
  have HTm:=Lib.hid (HT10.out.below hbm)
  have HBm:=Lib.hid (HB10.out.below hbm HB10.out.lt)
  rw[←hwm]
  rw[←hwm]at hHeld
  clear hwm hbm
  refine hp 0 ?_
  refine hp 1 ?_
  refine hp 2 ?_
  refine hp 3 ?_
  refine hp 4 ?_
  refine hp 5 ?_
  refine hp 6 ?_
  refine hp 7 ?_
  refine hp 8 ?_
  refine hp 9 ?_
  refine wpAnyH_ready (rs:=[10]) (by kernel_rfl) (by simp) ?_
  refine AllReadyH.cons rfl (fun K hK=> ?_) AllReadyH.nil
  go_simp
  refine(rG (.slice p9 (v.sealed.length+1) q9) (v.sealed++[⟨aW v cnt s,t⟩]) (v.sealed.length:Int) _ (de.own (n:=v.sealed.length+1) (by have h9:=HTm.out.at'.sealed;simp only[List.length_append,List.length_cons,List.length_nil,Nat.zero_add]at h9;exact h9) (by simp)) (by rw[List.length_append];have:=HC.out.sealed;show v.sealed.length+1≤1048576;omega) HTAME.out).mono ?_
  rintro e wn ⟨he,hbn⟩
  unfold nW at he
  obtain⟨R,hR⟩:∃R,gw (v.sealed++[⟨aW v cnt s,t⟩]) (v.sealed.length:Int)=R:=⟨_,rfl⟩
  rw[hR]at he
  subst he
  have HR:=Lib.hid hR
  have HTn:=Lib.hid (HTm.out.below hbn)
  have HBn:=Lib.hid (HBm.out.below hbn HBm.out.lt)
  clear hbn hR
  (try go_wp2_with fail)
  refine hK.out _ _ (HTn.out.at'.vol.cell (i:=4) rfl) (fun hHeld2=> ?_)
  clear hK K hHeld
  have hHeld:=hHeld2
  clear hHeld2
  (try go_frame)
  refine hp 11 ?_
  refine hp 12 ?_
  refine wpAnyH_ready (rs:=[13]) (by kernel_rfl) (by simp) ?_
  refine AllReadyH.cons rfl (fun K hK=> ?_) AllReadyH.nil
  refine gi 37 (.tmp 2) (.tmp 123) b2 aK.zero.cells R.1.cells 37 HBn.out rfl bf (aK.cells_one _) rfl rfl rfl ?_
  intro wo Bo oo
  have HTo:=Lib.hid (HTn.out.away (oo.turned (by simp)) (HTn.out.at'.notype HBn.out.ty (by decide)) HL1.out)
  refine hK.out _ _ (HTo.out.at'.vol.cell (i:=4) rfl) (fun hHeld2=> ?_)
  clear hK K hHeld
  have hHeld:=hHeld2
  clear hHeld2
  (try go_frame)
  refine hp 14 ?_
  refine wpAnyH_done (by kernel_rfl) ?_ _
  clear hHeld
  (try go_wp2_with fail)
  (try simp only[Exit.inBlock,Exit.then]);refine bodyPost_ret (bQ rfl _ _ Bo.range rfl Tryz.underlying37 rfl bf) rfl ⟨s,t,bl,nk,kb,q,nb,(.slice p9 (v.sealed.length+1) q9),HTS.out,HTT.out,HTB.out,HTN.out,HTK.out,HTQ.out,HNB.out,by rw[HR.out];rfl,HTo.out⟩
theorem dY.back {u w:World} {a b:Option Nat} (h:dY u a b) (hs:w.heap.size≤u.heap.size):dY w a b:=h.imp id (fun h k hk=>Nat.le_trans hs (h k hk))
theorem dY.or {u:World} {a b:Option Nat} (h:dY u a b):∀k,b=some k→a=some k∨u.heap.size≤k:=fun k hk=>h.elim (fun e=> .inl (by rw[←e];exact hk)) (fun f=> .inr (f k hk))
theorem FO {w:World} {g n m:Nat} {cs:List Value} {e:TypeId} (h:ab w g cs e) (hl:cs.length=n*m) (hn:n≤9223372036854775807):w.ownsRow 0 e m (.slice (some ⟨g,0,none⟩) n n) n cs:=
 ⟨hl, .inr ⟨g,n,cs.toArray,rfl,Nat.zero_le _,h,Nat.le_refl _,hn,by simpa using hl,by rw[←hl];simp⟩⟩
structure fc (w w':World) (b k:Nat) (cs:List Value) (t e:TypeId) (m:Nat) (lv:Value) (n:Nat) (xs:List Value):Prop where
 ex:∃lv',w'.ownsRow 0 e m lv' n xs∧ab w' b (cs.set k lv') t∧aa (b::lv.ownBlock.toList) w w'∧dY w lv.ownBlock lv'.ownBlock
theorem fc.lead {w0 w w':World} {b k:Nat} {cs:List Value} {t e:TypeId} {m:Nat} {lv:Value} {n:Nat} {xs:List Value} (h:fc w w' b k cs t e m lv n xs) (hb:Below w0.heap.size w0 w):fc w0 w' b k cs t e m lv n xs:=
 ⟨h.ex.imp fun lv' ⟨h1,h2,h3,h4⟩=>⟨h1,h2,(aa.of_below hb (Nat.le_refl _)).trans h3,h4.back hb.size⟩⟩
section
variable {P:Program} {o:Oper} {a:Act} {w:World} {K:Act→World→Prop} {Q:Exit→Act→World→Prop}
theorem kq (ty:TypeId) (z:List Value) (hz:∀w,(zeroValue ty).run P w= .ok (.agg z.toArray) w) (ho:o.op= .alloc ty)
  (h:∀n w',w.heap.size≤n→ab w' n z ty→Below n w w'→n<w'.heap.size→K (a.put o.dst (.pointer (some ⟨n,0,none⟩))) w'):o.wp P a w K Q:=by
 unfold Oper.wp execOp
 simp only[ho,Instr.alloc,Sem.run_bind,hz,Result.andThen_ok,newVar,newRow,Value.cells,run_newObj,Sem.run_pure]
 exact h _ _ (Nat.le_refl _) (ab.new w z ty) ((Below.refl _ _).alloc (Nat.le_refl _) _) (by simp)
end
def lP:List Value→Nat→List Value→List Value
 |xs,_,[]=>xs
 |xs,o,v::r=>lP (xs.set o v) (o+1) r
theorem oJ (rest:List Value):∀(b a pre:List Value),a.length=b.length→lP (pre++(a++rest)) pre.length b=pre++(b++rest)
 |[],a,pre,h=>by rw[List.eq_nil_of_length_eq_zero h];rfl
 |v::r,[],pre,h=>by simp at h
 |v::r,x::a,pre,h=>by
  show lP ((pre++(x::(a++rest))).set pre.length v) (pre.length+1) r= _
  have h1:(pre++(x::(a++rest))).set pre.length v=(pre++[v])++(a++rest):=by simp
  rw[h1,show pre.length+1=(pre++[v]).length by simp,oJ rest r a (pre++[v]) (by simpa using h)]
  simp
theorem Ee {α:Type} {c:α→List Value} {m:Nat} (hm:∀x,(c x).length=m) (l:List α) (j:Nat) (y:α) (hj:j<l.length):lP (l.flatMap c) (j*m) (c y)=(l.set j y).flatMap c:=by
 have h1:l=l.take j++l[j]::l.drop (j+1):=by rw[←List.drop_eq_getElem_cons hj,List.take_append_drop]
 have h2:l.set j y=l.take j++y::l.drop (j+1):=by rw[List.set_eq_take_append_cons_drop,if_pos hj]
 have h3:((l.take j).flatMap c).length=j*m:=by rw[F9 hm,List.length_take,Nat.min_eq_left (Nat.le_of_lt hj)]
 rw[h2,List.flatMap_append,List.flatMap_cons]
 have h4:l.flatMap c=(l.take j).flatMap c++(c l[j]++(l.drop (j+1)).flatMap c):=by
  conv=>lhs;rw[h1]
  rw[List.flatMap_append,List.flatMap_cons]
 rw[h4,←h3]
 exact oJ _ _ _ _ (by rw[hm,hm])
theorem nt {base size n g cap:Nat} {e:TypeId}:∀(vs:List Value) (o:Nat) (w:World) (xs:List Value),w.ownsRow base e size (.slice (some ⟨g,0,none⟩) n cap) n xs→(w.setCells g o vs).ownsRow base e size (.slice (some ⟨g,0,none⟩) n cap) n (lP xs o vs)∧aa [g] w (w.setCells g o vs)
 |[],o,w,xs,h=>⟨h,aa.refl _ _⟩
 |v::r,o,w,xs,h=>by
  have h1:=h.stored o v
  have h2:=nt r (o+1) _ _ h1.1
  exact⟨h2.1,(aa.of_grown h1.2 (fun k hk=>by injection hk with hk;simp[hk])).trans h2.2⟩
theorem FP {α:Type} {c:α→List Value} {m:Nat} (hm:∀x,(c x).length=m) {w:World} {base n g cap:Nat} {e:TypeId} {l:List α} (h:w.ownsRow base e m (.slice (some ⟨g,0,none⟩) n cap) n (l.flatMap c)) (j:Nat) (y:α) (hj:j<l.length):
  (w.setCells g (j*m) (c y)).ownsRow base e m (.slice (some ⟨g,0,none⟩) n cap) n ((l.set j y).flatMap c)∧aa [g] w (w.setCells g (j*m) (c y)):=by
 have:=nt (c y) (j*m) w _ h
 rw[Ee hm l j y hj]at this
 exact this
theorem BJ {w:World} {base size n g cap:Nat} {e:TypeId} {xs:List Value} (h:w.ownsRow base e size (.slice (some ⟨g,0,none⟩) n cap) n xs) {o k:Nat} (hk:o+k≤n*size) (hn:0<n):w.there g o k:=by
 obtain⟨g',cap',z,he,_,_,hB⟩:=cY h hn
 injection he with he _ _
 injection he with he
 injection he with he _ _
 subst he
 intro j hj
 have hl:xs.length=n*size:=h.1
 exact⟨by rw[hB.cell?];simp;omega,hB.free _⟩
def closes (l:List Rec):Nat:=(l.filter (fun r=>decide (r.kind=1))).length
theorem oK (r:Rec) (l:List Rec):closes (r::l)=(if r.kind=1 then 1 else 0)+closes l:=by
 unfold closes
 by_cases h:r.kind=1
 ·simp[List.filter_cons,h,Nat.add_comm]
 ·simp[List.filter_cons,h]
structure BK (first:Int) (l:List Rec):Prop where
 each:∀(k:Nat) (r:Rec),l[k]?=some r→am r=true∧r.epoch=first+(closes (l.take k):Int)
theorem sJ (ep now:Int) (i:Nat) (r:Rec) (l:List Rec):fV ep now i (r::l)=if am r=true∧r.epoch=ep∧now≤r.time then fV (if r.kind=1 then ep+1 else ep) r.time (i+1) l else(ep,i,16):=rfl
theorem BN (l:List Rec):∀(ep now:Int) (i:Nat),(fV ep now i l).2.2=0→(fV ep now i l).1=ep+(closes l:Int)∧(fV ep now i l).2.1=i+l.length∧BK ep l:=by
 induction l with
 |nil=>intro ep now i _;exact⟨by simp[fV,closes],rfl,⟨fun k r h=>by simp at h⟩⟩
 |cons r l ih=>
  intro ep now i h
  rw[sJ]at h ⊢
  by_cases hc:am r=true∧r.epoch=ep∧now≤r.time
  ·rw[if_pos hc]at h ⊢
   obtain⟨h1,h2,h3⟩:=ih _ _ _ h
   refine⟨?_,by rw[h2,List.length_cons];omega,⟨?_⟩⟩
   ·rw[h1,oK]
    by_cases hk:r.kind=1<;>simp[hk]<;>omega
   ·intro k x hx
    cases k with
    |zero=>
     simp at hx
     subst hx
     exact⟨hc.1,by simp[closes,hc.2.1]⟩
    |succ k=>
     obtain⟨g1,g2⟩:=h3.each k x (by simpa using hx)
     refine⟨g1, ?_⟩
     rw[g2,List.take_succ_cons,oK]
     by_cases hk:r.kind=1<;>simp[hk]<;>omega
  ·rw[if_neg hc]at h
   simp at h
theorem xm (l:List Rec) (k:Nat):closes (l.take k)≤closes l:=by
 have h:=List.take_append_drop k l
 have:closes l=closes (l.take k)+closes (l.drop k):=by
  conv=>lhs;rw[←h]
  unfold closes
  rw[List.filter_append,List.length_append]
 omega
theorem pq (l:List Rec) {j k:Nat} (h:j≤k):closes (l.take j)≤closes (l.take k):=by
 have:=xm (l.take k) j
 rw[List.take_take,Nat.min_eq_left h]at this
 exact this
def yw (first:Int) (l:List Rec):Bool:=match l.getLast? with|some r=>decide (4096<r.epoch-first)|none=>false
structure BO (root:ByteArray) (first:Int) (l:List Rec):Prop where
 root:root.size=32
 first0:0≤first
 first1:first≤4294967295
 follow:(fV first 0 0 l).2.2=0
 near:yw first l=false
theorem BO.epochs {root:ByteArray} {first:Int} {l:List Rec} (h:BO root first l):∀(k:Nat) (r:Rec),l[k]?=some r→am r=true∧r.epoch=first+(closes (l.take k):Int)∧r.epoch-first≤4096:=by
 intro k r hk
 obtain⟨_,_,h3⟩:=BN l _ _ _ h.follow
 obtain⟨g1,g2⟩:=h3.each k r hk
 refine⟨g1,g2, ?_⟩
 have hlen:=(List.getElem?_eq_some_iff.1 hk).1
 obtain⟨z,hz⟩:∃z,l[l.length-1]?=some z:=⟨_,List.getElem?_eq_getElem (by omega)⟩
 have hl:l.getLast?=some z:=by rw[List.getLast?_eq_getElem?,hz]
 have hn:=h.near
 unfold yw at hn
 rw[hl]at hn
 simp at hn
 have g4:=(h3.each _ z hz).2
 have:=pq l (show k≤l.length-1 by omega)
 omega
def zt (l:List Rec):List Value:=l.flatMap Rec.cells
theorem Ef (ys:List Rec):∀(j:Nat) (y:Rec),ys[j]?=some y→∀(i:Nat) (u:Value),y.cells[i]?=some u→(zt ys)[j*8+i]?=some u:=by
 induction ys with
 |nil=>intro j y h;simp at h
 |cons a r ih=>
  intro j y h i u hu
  have ha:a.cells.length=8:=rfl
  show(a.cells++zt r)[_]?= _
  cases j with
  |zero=>
   simp at h
   subst h
   have:=(List.getElem?_eq_some_iff.1 hu).1
   rw[List.getElem?_append_left (by omega),Nat.zero_mul,Nat.zero_add]
   exact hu
  |succ j=>
   rw[List.getElem?_append_right (by omega),ha,show(j+1)*8+i-8=j*8+i by omega]
   exact ih j y (by simpa using h) i u hu
theorem nf.below {w w':World} {v:Value} {l:List Rec} (h:nf w v l) {B:Nat} (hb:Below B w w') (hB:w.heap.size≤B):nf w' v l:=by
 refine h.imp id ?_
 rintro⟨g,o,c,h1,h2,h3⟩
 exact⟨g,o,c,h1,by have:=hb.size;omega,fun j x hx i u hu=>by rw[hb.cell (by show g<B;omega)];exact h3 j x hx i u hu⟩
theorem nf.own {w:World} {base n:Nat} {v:Value} {xs:List Rec} (h:w.ownsRow base 25 8 v n (zt xs)) (hn:n=xs.length):nf w v xs:=by
 subst hn
 by_cases h0:xs=[]
 ·subst h0
  exact .inl ⟨rfl,qX h⟩
 ·obtain⟨g,cap,z,rfl,hc,hb,hk⟩:=cY h (List.length_pos_iff.2 h0)
  refine .inr ⟨g,0,cap,rfl,hk.lt,fun j x hx i u hu=> ?_⟩
  refine hk.cell ?_
  have h1:=Ef xs j x hx i u hu
  rw[Nat.zero_add,List.getElem?_append_left (List.getElem?_eq_some_iff.1 h1).1]
  exact h1
theorem qY:(Tryz.prog.info? 25).map (fun i=>(i.zero,i.size,i.bytes))=some (some (.agg Rec.zero.cells.toArray),8,80):=by kernel_rfl
theorem Rec.cells_one1 (x:Rec):∀v∈x.cells,v.oneCell'=true:=by intro v hv;simp[Rec.cells]at hv;rcases hv with rfl|rfl|rfl|rfl|rfl|rfl|rfl|rfl<;>rfl
end Go.Proofs.YtgimkmclgjfddaaGreat
